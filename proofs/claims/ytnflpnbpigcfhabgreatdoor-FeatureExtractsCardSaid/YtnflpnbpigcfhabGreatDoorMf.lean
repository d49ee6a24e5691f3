/- Mf: the texts RExtr, LExt in one. -/
import Derived.Test.YtnflpnbpigcfhabGreatDoorMe
import Derived.Test.YtnflpnbpigcfhabGreatDoorRFrm
import Derived.Test.YtnflpnbpigcfhabGreatDoorRWgh
import Derived.Test.YtnflpnbpigcfhabGreatDoorRBnd
import Derived.Test.YtnflpnbpigcfhabGreatDoorRcpR
import Derived.Test.YtnflpnbpigcfhabGreatDoorRDif
import Derived.Test.YtnflpnbpigcfhabGreatDoorRCen
import Derived.Test.YtnflpnbpigcfhabGreatDoorMd
import Derived.Test.YtnflpnbpigcfhabGreatDoorMc
/- the reference's Extract -/
namespace Go.Proofs.YtnflpnbpigcfhabGreatDoor
open Go.RowKit Ear

set_option maxRecDepth 100000 in
set_option maxHeartbeats 16000000 in
theorem rExtract_ok (rate : Int) (A : Option Addr) (c : Nat) (l : List Int) (num den : Int) (size step : Nat) (win : Int) (pts : Nat) (E : Option Addr) (ec : Nat) (edges : List Int) (ce : Nat) (diff cen : Bool) (w : World) (hC : CosOk w) (h : Lies w A (ics l)) (hn : l.length ≤ 400)
    (hE : Lies w E (ics edges)) (hb : Hid (decide (chk rate l = 0) = true)) (hr : Hid (RcpOk ⟨num, den, size, step, win, pts, E, ec, edges, ce, diff, cen⟩)) (out : List (List Int)) (ho : Hid (extL l num den size step win pts edges ce diff cen = out)) :
    Calls Tryz.prog 9 #[recV rate A l.length c, .agg #[.int .i64 num, .int .i64 den, .int .i64 size, .int .i64 step, .int .i64 win, .int .i64 pts, .slice E edges.length ec, .int .i64 ce, .bool diff, .bool cen]] w (LLErr 0 out w) := by
  obtain ⟨i0, hi0, hz0, hz1, hz2⟩ := info_parts info_ints
  have TI := Lib.hid hi0; have TZ0 := Lib.hid hz0; have TZ1 := Lib.hid hz1; have TZ2 := Lib.hid hz2
  clear hi0 hz0 hz1 hz2
  have hch := chk_ok.1 (of_decide_eq_true hb.out)
  have hsm : allR (-32768) 32767 l = true := hch.2.2.2
  obtain ⟨n0, n1, d0, d1, p0, p1, s0, s1, t0, t1, k0, k1, e0, e1, c0, c1⟩ := hr.out
  simp only [Int.toNat_natCast] at n0 n1 d0 d1 p0 p1 s0 s1 t0 t1 k0 k1 e0 e1 c0 c1
  have HED := Lib.hid (edg_of e1)
  have he2 := HED.out.two
  have hpt := lenOk_bd p1
  have s0' : 1 ≤ size := by omega
  have s1' : size ≤ pts := by omega
  have t0' : 1 ≤ step := by omega
  have t1' : step ≤ 4096 := by omega
  have hce : ce ≤ fit (edges.length - 1) := by omega
  have hem := emp_bd hsm n0 n1 d0
  have hel : (emp l num den).length = l.length := emp_length l num den
  have HEM : Hid (empR l num den = (0, emp l num den)) := Lib.hid (by
    unfold empR
    rw [if_pos (rchk_ok.2 ⟨⟨by omega, allR_mono hsm (by omega) (by omega)⟩, n0, n1, d0, d1⟩), if_pos (vchk_ok.2 ⟨by omega, allR_mono hem (by omega) (by omega)⟩)])
  have HRV := Lib.hid (rawV_vec (size := size) (step := step) (win := win) hsm n0 n1 d0 p1 s0' s1' t0' e0 he2 hce (by omega) diff)
  have HPO := Lib.hid p1
  have HCE := Lib.hid hce
  have D0 := Lib.hid (RcBox.new w rate A l.length c ⟨num, den, size, step, win, pts, E, ec, edges, ce, diff, cen⟩)
  have HO := ho
  unfold extL rawV at HO
  unfold rawV at HRV
  clear ho hch hsm e1 p1 n0 n1 d0 d1 c0 c1 p0 s0 s1 t0 t1 hce hr
  go_enter Tryz.func9, Tryz.ntmps9
  go_wp2_with fail
  refine (rEmphasis_fore_any A c l num den _ (h.below D0.out.bel) (by omega) 0 (emp l num den) HEM).mono ?_
  rintro e w3 ⟨A3, c3, rfl, ho3, hb3⟩
  have D3 := Lib.hid (D0.out.below hb3)
  generalize emp l num den = x at *
  have HX := Lib.hid (Lies.of_own ho3)
  have hxl : x.length ≤ 400 := by omega
  clear hb3 ho3 D0 hel HEM
  obtain ⟨q0, q1, q2, q3, q4, q5, q6, q7, q8, q9⟩ := rcp_cells D3.out.rcp
  obtain ⟨N, hN⟩ : ∃ N, frN x.length size step false = N := ⟨_, rfl⟩
  have hNle := frN_le (n := x.length) (pad := false) s0' t0'
  rw [hN] at hNle
  have HN := Lib.hid hN
  have hmul := Nat.mul_le_mul (Nat.le_trans hNle hxl) (show size ≤ 64 by omega)
  have HFRM : Hid (frmR x size step false = (0, frs x size step false)) := Lib.hid (by
    unfold frmR
    rw [if_pos (vchk_ok.2 ⟨by omega, allR_mono hem (by omega) (by omega)⟩), if_pos (by omega), Int.toNat_natCast, Int.toNat_natCast, if_neg (by rw [hN]; omega)])
  have HFA := Lib.hid (fun k => frA_all hem (by omega) (by omega) size k)
  have hxb : Hid (∀ y ∈ x, -9223372036854775808 ≤ y ∧ y ≤ 9223372036854775807) := Lib.hid (fun y hy => by have := allR_mem hem hy; omega)
  clear hN hmul hem
  go_wp2_with fail
  refine (rFrames_any A3 c3 x size step false w3 HX.out (by omega) hxb.out 0 _ HFRM).mono ?_
  rintro e w4 ⟨A4, c4, L4, rfl, v4, o4, b4⟩
  have D4 := Lib.hid (D3.out.below b4)
  have V4 := Lib.hid v4.out
  have O4 := Lib.hid o4
  have HL4 : Hid (L4.length = N) := Lib.hid (by have := congrArg List.length V4.out; rw [frs_length, HN.out] at this; simpa using this)
  have hL4 : L4.length ≤ 400 := by rw [HL4.out]; omega
  have hC4 := Lib.hid (hC.below D4.out.bel)
  have hE4 := Lib.hid (hE.below D4.out.bel)
  clear v4 o4 b4 q0 q1 q2 q3 q4 q5 q6 q7 q8 q9 D3 HX
  go_wp2_with fail
  go_loopw [10, 11, 12, 13, 14, 15] (fun o t _ _ _ _ wr => ∃ k : Nat, k ≤ L4.length ∧ t = .int .i64 k ∧ ∃ A' c' L', o = .slice A' k c' ∧ (L' : List Inn).length = k ∧ vsOf L' = (List.range k).map (fun j => vecF win pts edges ce (frA x size (j * step))) ∧ LLo wr w4.heap.size A' c' L' ∧ Below w4.heap.size w4 wr) (fun _ t _ _ _ _ _ => L4.length - (intOf t).toNat)
  case atStart => exact ⟨0, Nat.zero_le _, rfl, none, 0, [], rfl, rfl, rfl, LLo.nil _ _, Below.refl _ _⟩
  case round =>
    obtain ⟨k, hk, rfl, A', c', L', rfl, hLk, hvs, hLL, hbel⟩ := hrel
    obtain ⟨W0, rfl⟩ : ∃ x, x = wr := ⟨_, rfl⟩
    have HLK := Lib.hid hLk
    have HVS := Lib.hid hvs
    have HLL := Lib.hid hLL
    have HBE := Lib.hid hbel
    have HROW := HLL.out.row
    rw [HLK.out] at HROW
    have HRO := Lib.hid HROW
    have DW := Lib.hid (D4.out.below HBE.out)
    clear hLk hvs hLL hbel HROW
    by_cases hlt : k < L4.length
    · obtain ⟨b, off, rfl, hbl, hcl⟩ := (O4.out.below HBE.out).lies.lat hlt
      have hin := ((O4.out.below HBE.out).inn L4[k] (List.getElem_mem hlt)).1
      have hyv : L4[k].2.2 = frA x size (k * step) := by
        have h2 : (vsOf L4)[k]? = some L4[k].2.2 := by rw [List.getElem?_map, List.getElem?_eq_getElem hlt]; rfl
        rw [V4.out, frs, List.getElem?_map, List.getElem?_range (by rw [HN.out, ← HL4.out]; exact hlt)] at h2
        simpa using h2.symm
      generalize L4[k] = y at *
      obtain ⟨ya, yc, yl⟩ := y
      simp only at hyv hcl
      have hyl1 : 1 ≤ yl.length := by rw [hyv, frA_length]; exact s0'
      have hyl2 : yl.length ≤ pts := by rw [hyv, frA_length]; exact s1'
      have HYA : Hid (allR (-65536) 65535 yl = true) := Lib.hid (by rw [hyv]; exact HFA.out _)
      have HYV := Lib.hid hyv
      have HIN : Hid (Lies W0.drew ya (ics yl)) := Lib.hid (Lies.drew hin.1)
      have HVO := Lib.hid (vecF_ok (win := win) HYA.out HPO.out hyl2 e0 HCE.out)
      have HVF : Hid (vecF win pts edges ce yl = if 0 < ce then cep (lgs (bndL (spc (ext (wgh yl win) pts)) edges)) ce else lgs (bndL (spc (ext (wgh yl win) pts)) edges)) := Lib.hid rfl
      have HGA := Lib.hid (wgh_all2 (kind := win) HYA.out)
      have hgl : (wgh yl win).length ≤ pts := by rw [wgh_length]; exact hyl2
      have hvn := vlen_bd he2 e0 HCE.out
      obtain ⟨q0, q1, q2, q3, q4, q5, q6, q7, q8, q9⟩ := rcp_cells DW.out.rcp
      obtain ⟨P, hP⟩ : ∃ P, P = w.heap.size + 1 := ⟨_, rfl⟩
      have hPl : P < W0.drew.heap.size := by rw [hP]; exact (Array.getElem?_eq_some_iff.1 DW.out.rcp).1
      have SA : Hid (W0.drew.cell? ⟨b, off + k, none⟩ = some (.slice ya yl.length yc) ∧ W0.drew.cell? ⟨w.heap.size + 1, 4, none⟩ = some (.int .i64 win)) := Lib.hid ⟨hcl, q4⟩
      have HQ : Hid (W0.drew.cell? ⟨w.heap.size + 1, 5, none⟩ = some (.int .i64 pts) ∧ W0.drew.cell? ⟨w.heap.size + 1, 6, none⟩ = some (.slice E edges.length ec) ∧ W0.drew.cell? ⟨w.heap.size + 1, 7, none⟩ = some (.int .i64 ce)) := Lib.hid ⟨q5, q6, q7⟩
      have HCW : Hid (CosOk W0.drew) := Lib.hid (Lies.drew (hC4.out.below HBE.out))
      have HEW : Hid (Lies W0.drew E (ics edges)) := Lib.hid (Lies.drew (hE4.out.below HBE.out))
      rw [hP] at hPl
      have hbl0 : b < W0.drew.heap.size := hbl
      clear hyv hin q0 q1 q2 q3 q5 q6 q7 q8 q9 hP q4
      go_upto_region 9 with (fail)
      go_region_held3 (fun w' => w'.cell? ⟨b, off + k, none⟩ = some (.slice ya yl.length yc) ∧ w'.cell? ⟨w.heap.size + 1, 4, none⟩ = some (.int .i64 win))
        (first | exact SA.out | exact SB.out)
        (first | (go_at_call 35; refine (rWeigh_ok ya yc yl win W0.drew HIN.out k0 k1 hyl1 (by omega) (Lib.hid (allR_mono HYA.out (by omega) (by omega)))).mono ?_; rintro e w6 ⟨A6, c6, rfl, ho6, hb6⟩; have SB : Hid (w6.cell? ⟨b, off + k, none⟩ = some (.slice ya yl.length yc) ∧ w6.cell? ⟨w.heap.size + 1, 4, none⟩ = some (.int .i64 win)) := Lib.hid ⟨(hb6.cell (p := ⟨b, off + k, none⟩) hbl0).trans SA.out.1, (hb6.cell (p := ⟨w.heap.size + 1, 4, none⟩) hPl).trans SA.out.2⟩; have B6 := Lib.hid hb6; have O6 := Lib.hid ho6; clear hb6 ho6))
      clear SA SB HIN
      generalize wgh yl win = g1 at *
      have TA : Hid (w6.drew.cell? ⟨w.heap.size + 1, 5, none⟩ = some (.int .i64 pts) ∧ w6.drew.cell? ⟨w.heap.size + 1, 6, none⟩ = some (.slice E edges.length ec)) := Lib.hid ⟨(B6.out.cell (p := ⟨w.heap.size + 1, 5, none⟩) hPl).trans HQ.out.1, (B6.out.cell (p := ⟨w.heap.size + 1, 6, none⟩) hPl).trans HQ.out.2.1⟩
      have hPl6 : w.heap.size + 1 < w6.drew.heap.size := Nat.lt_of_lt_of_le hPl B6.out.size
      have HLG : Hid (Lies w6.drew A6 (ics g1)) := Lib.hid (Lies.drew (Lies.of_own O6.out))
      have HCW6 : Hid (CosOk w6.drew) := Lib.hid (Lies.drew (HCW.out.below B6.out))
      have HEW6 : Hid (Lies w6.drew E (ics edges)) := Lib.hid (Lies.drew (HEW.out.below B6.out))
      have B6' : Hid (Below W0.heap.size W0 w6.drew) := Lib.hid (below_undrew B6.out).drew
      have HEL := Lib.hid (ext_length hgl)
      have HEA := Lib.hid (ext_all (n := pts) HGA.out)
      have HXE : Hid (ext g1 pts = ext g1 pts) := Lib.hid rfl
      have HSL : Hid ((spc (ext g1 pts)).length = pts) := Lib.hid (by rw [spc_length]; exact HEL.out)
      have HSA : Hid (allR (-16777216) 16777216 (spc (ext g1 pts)) = true) := Lib.hid (allR_mono (spc_bd (d := 65536) (by omega) HEA.out) (by rw [HEL.out]; omega) (by rw [HEL.out]; omega))
      have hcE := fun W (hW : Lies W A6 (ics g1)) => rextended_any A6 c6 g1 pts W hW hgl (by omega)
      have HCEx := Lib.hid hcE
      clear hcE
      generalize ext g1 pts = X at *
      have hcS := fun A c W (hW : Lies W A (ics X)) hC => rSpectrum_any A c X W hW hC (by rw [HEL.out]; exact HPO.out) HEA
      have HCS := Lib.hid hcS
      clear hcS
      generalize spc X = S at *
      have HBN := Lib.hid (bndL_length S edges)
      have HBB := Lib.hid (bndL_bd (e := edges) HSA.out (by rw [HSL.out]; omega))
      go_upto_region 10 with (fail)
      go_region_held3 (fun w' => w'.cell? ⟨w.heap.size + 1, 5, none⟩ = some (.int .i64 pts) ∧ w'.cell? ⟨w.heap.size + 1, 6, none⟩ = some (.slice E edges.length ec))
        (first | exact TA.out | exact TB.out | exact TC.out | exact TD.out)
        (first
          | (go_at_call 38; refine (HCEx.out _ HLG.out).mono ?_; rintro e w7 ⟨A7, c7, rfl, ho7, hb7⟩; have TB : Hid (w7.cell? ⟨w.heap.size + 1, 5, none⟩ = some (.int .i64 pts) ∧ w7.cell? ⟨w.heap.size + 1, 6, none⟩ = some (.slice E edges.length ec)) := Lib.hid ⟨(hb7.cell (p := ⟨w.heap.size + 1, 5, none⟩) hPl6).trans TA.out.1, (hb7.cell (p := ⟨w.heap.size + 1, 6, none⟩) hPl6).trans TA.out.2⟩; have O7 := Lib.hid (Lies.of_own ho7); have C7 := Lib.hid (HCW6.out.below hb7); have E7 := Lib.hid (HEW6.out.below hb7); have B7 := Lib.hid (B6'.out.trans (hb7.mono B6'.out.size)); have hPl7 : w.heap.size + 1 < w7.heap.size := Nat.lt_of_lt_of_le hPl6 hb7.size; clear hb7 ho7)
          | (go_at_call 37; refine (HCS.out A7 c7 w7 O7.out C7.out).mono ?_; rintro e w8 ⟨A8, c8, rfl, ho8, hb8⟩; have TC : Hid (w8.cell? ⟨w.heap.size + 1, 5, none⟩ = some (.int .i64 pts) ∧ w8.cell? ⟨w.heap.size + 1, 6, none⟩ = some (.slice E edges.length ec)) := Lib.hid ⟨(hb8.cell (p := ⟨w.heap.size + 1, 5, none⟩) hPl7).trans TB.out.1, (hb8.cell (p := ⟨w.heap.size + 1, 6, none⟩) hPl7).trans TB.out.2⟩; have O8 := Lib.hid ho8; have E8 := Lib.hid (E7.out.below hb8); have B8 := Lib.hid (B7.out.trans (hb8.mono B7.out.size)); have hPl8 : w.heap.size + 1 < w8.heap.size := Nat.lt_of_lt_of_le hPl7 hb8.size; clear hb8 ho8)
          | (go_at_call 36; refine (rBands_any A8 E c8 ec S edges w8 (Lies.of_own O8.out) E8.out (own_cap O8.out) (Lib.hid (by rw [HSL.out]; exact HED.out)) HSA (by rw [HSL.out]; omega) (by omega)).mono ?_; rintro e w9 ⟨A9, c9, rfl, ho9, hb9⟩; have TD : Hid (w9.cell? ⟨w.heap.size + 1, 5, none⟩ = some (.int .i64 pts) ∧ w9.cell? ⟨w.heap.size + 1, 6, none⟩ = some (.slice E edges.length ec)) := Lib.hid ⟨(hb9.cell (p := ⟨w.heap.size + 1, 5, none⟩) hPl8).trans TC.out.1, (hb9.cell (p := ⟨w.heap.size + 1, 6, none⟩) hPl8).trans TC.out.2⟩; have O9 := Lib.hid ho9; have B9 := Lib.hid (B8.out.trans (hb9.mono B8.out.size)); have HS8 : Hid (W0.heap.size ≤ w8.heap.size) := Lib.hid B8.out.size; clear hb9 ho9))
      clear TA TB TC TD O6 O7 O8 B6 B6' B7 B8 C7 E7 E8 HCS HCEx HXE HLG HCW6 HEW6
      generalize bndL S edges = B at *
      have hbn : B.length ≤ 32 := by rw [HBN.out]; omega
      have hbn1 : 1 ≤ B.length := by rw [HBN.out]; omega
      have hcl0 : Hid (ce ≤ fit B.length) := Lib.hid (by rw [HBN.out]; exact HCE.out)
      obtain ⟨g5, cap5, hform, _, _⟩ := O9.out.form (by omega)
      obtain ⟨rfl, hcc⟩ : A9 = some ⟨g5, 0, none⟩ ∧ cap5 = c9 := by injection hform with e1 _ e3; exact ⟨e1, e3.symm⟩
      subst hcc
      clear hform
      obtain ⟨f, hf⟩ : ∃ f : Int → Int, f = (fun x => lg x.toNat) := ⟨_, rfl⟩
      have HF := Lib.hid hf
      have HLGm : Hid (mapTo f B B.length = lgs B) := Lib.hid (by rw [mapTo_all, hf]; rfl)
      clear hf
      go_wp2_with fail
      go_loopw [15] (fun i wi => ∃ j : Nat, j ≤ B.length ∧ i = .int .i64 j ∧ wi.ownsRow w8.heap.size 3 1 (.slice (some ⟨g5, 0, none⟩) B.length cap5) B.length (ics (mapTo f B j)) ∧ Below W0.heap.size W0 wi) (fun i _ => B.length - (intOf i).toNat)
      case atStart => exact ⟨0, by omega, rfl, by rw [mapTo_zero]; exact O9.out, B9.out⟩
      case round =>
        clear O9 B9
        obtain ⟨j, hj, rfl, r1, r2⟩ := hrel
        have R1 := Lib.hid r1
        have R2 := Lib.hid r2
        clear r1 r2
        by_cases hlj : j < B.length
        · have q1 : wr.cell? ⟨g5, j, none⟩ = some (.int .i64 (B[j]?.getD 0)) := by
            rw [R1.out.cellAt j (by omega)]; simp only [List.getElem?_map, mapTo_get _ B j hlj]; rfl
          have b1 := HBB.out j
          generalize hx1 : B[j]?.getD 0 = x1 at *
          have H1 := Lib.hid hx1
          obtain ⟨y, hy⟩ : ∃ y : Nat, x1 = y := ⟨x1.toNat, by omega⟩
          subst hy
          have HFY : Hid (lg y = f y) := Lib.hid (by rw [HF.out]; simp)
          clear hx1
          go_wp2_with (go_at_call 39; refine (rLog_any y _ (by omega)).mono ?_; rintro e w6 ⟨rfl, hb6⟩; have R6 := Lib.hid (own_below R1.out hb6); have q2 : w6.frozen? ⟨g5, j, none⟩ = false := R6.out.frozenAt j; have q3 : w6.cell? ⟨g5, j, none⟩ = some (.int .i64 y) := (hb6.cell (p := ⟨g5, j, none⟩) (R1.out.lt g5 rfl).2).trans q1; have B6 := Lib.hid (R2.out.trans (hb6.mono R2.out.size)); clear hb6)
          have hst := R6.out.stored j (.int .i64 (lg y))
          have hset : (ics (mapTo f B j)).set j (.int .i64 (lg y)) = ics (mapTo f B (j + 1)) := by
            rw [← List.map_set, mapTo_set _ _ _ _ (by rw [H1.out, HFY.out])]
          rw [hset] at hst
          exact ⟨⟨j + 1, by omega, by go_num, hst.1, B6.out.setCell (by have := (R1.out.lt g5 rfl).1; have := HS8.out; show W0.heap.size ≤ g5; omega) _⟩, by simp [intOf]; omega⟩
        · obtain rfl : j = B.length := by omega
          have r1 := R1.out
          rw [HLGm.out] at r1
          have R7 := Lib.hid r1
          have q7 : wr.cell? ⟨w.heap.size + 1, 7, none⟩ = some (.int .i64 ce) := (R2.out.cell (p := ⟨w.heap.size + 1, 7, none⟩) hPl).trans HQ.out.2.2
          have HLL' : Hid ((lgs B).length = B.length) := Lib.hid (lgs_length B)
          have HLA : Hid (allR (-65536) 65536 (lgs B) = true) := Lib.hid (allR_mono (lgs_bd (fun x hx => by
            obtain ⟨i, hi, rfl⟩ := List.mem_iff_getElem.1 hx
            have := HBB.out i
            rw [List.getElem?_eq_getElem hi] at this
            simp only [Option.getD_some] at this
            omega)) (by omega) (by omega))
          obtain ⟨W9, rfl⟩ : ∃ x, x = wr := ⟨_, rfl⟩
          have HL9 := Lib.hid (HLL.out.below R2.out)
          have HR9 := Lib.hid (own_below HRO.out R2.out)
          have HB9 := Lib.hid (HBE.out.trans (R2.out.mono HBE.out.size))
          clear r1 R1 HLL HRO HBE DW
          by_cases h0 : 0 < ce
          · have hcall := rCepstrum_t (some ⟨g5, 0, none⟩) cap5 (lgs B) ce W9 (Lies.of_own R7.out) (Lies.below (w := W0) HCW.out R2.out) (by rw [HLL'.out]; omega) (by rw [HLL'.out]; exact hcl0.out) HLA
            rw [HLL'.out] at hcall
            have HCA := Lib.hid hcall
            have HVF' : Hid (vecF win pts edges ce yl = cep (lgs B) ce) := Lib.hid (by rw [HVF.out, if_pos h0])
            clear HVF hcall
            rw [HVF'.out] at HVO
            generalize cep (lgs B) ce = V at *
            go_wp2_with (first
              | (go_at_call 40; refine HCA.out.mono ?_; rintro e w6 ⟨A8, c8, rfl, t1, t2, t3, t4, t5⟩; have HR6 := Lib.hid (own_below HR9.out t5); have HL6 := Lib.hid (HL9.out.below t5); have HB6 := Lib.hid (HB9.out.trans (t5.mono HB9.out.size)); have T1 := Lib.hid t1; have T2 := Lib.hid t2; have T3 := Lib.hid t3; have T4 := Lib.hid t4; clear t1 t2 t3 t4 t5)
              | (at_builtin; refine wpList_append_srcG _ rfl (.tmp 87) (.tmp 89) _ rfl w4.heap.size 22 i0 _ 1 24 Tryz.underlying29 TI.out TZ0.out TZ1.out TZ2.out rfl (by omega) (.slice A' k c') k (lcs L') rfl (HR6.out.alloc _) (some ⟨w6.heap.size, 0, none⟩) 1 1 [Value.slice A8 V.length c8] rfl (fun e => by cases e) (lies_new _ _ _) (by simp) (by simp [Value.oneCell']) (by unfold maxLen; omega) (by omega) (by have := HB6.out.size; simp; omega) (k + 1) rfl ?_; intro A9 c9 w9' ho9 hg9 _))
            have h8 : A8 ≠ none := fun e => by
              have h1 := T1.out
              rw [e] at h1
              obtain ⟨b', off', e', _⟩ := h1 (by rw [List.length_map]; have := HVO.out.1; omega)
              exact absurd e' (by simp)
            have HIT : Hid (InT w6 (A8, c8, V)) := Lib.hid ⟨⟨T1.out, fun e => absurd e h8, by have := HVO.out.1; show V.length ≤ _; omega, T2.out, fun y hy => by have := allR_mem HVO.out.2 hy; omega⟩, fun b' off' e => T4.out b' off' e⟩
            have hsn : LLo w9' w4.heap.size A9 c9 (L' ++ [(A8, c8, V)]) := by
              refine LLo.snoc (HL6.out.below ((Below.refl _ _).alloc (Nat.le_refl _) _)) (HIT.out.below ((Below.refl _ _).alloc (Nat.le_refl _) _)) hg9 ?_
              have h1 := ho9
              rw [← HLK.out] at h1
              exact h1
            have hbel : Below w4.heap.size w4 w9' := (HB6.out.alloc HB6.out.size _).grown hg9 (by have := HB6.out.size; simp; omega) (fun q hq => (HR6.out.lt q hq).1)
            exact ⟨⟨k + 1, by omega, by go_num, A9, c9, _, rfl, by simp [HLK.out], by rw [List.range_succ, List.map_append, ← HVS.out, List.map_cons, List.map_nil, ← HYV.out, HVF'.out]; simp, hsn, hbel⟩, by simp [intOf]; omega⟩
          · have HVF' : Hid (vecF win pts edges ce yl = lgs B) := Lib.hid (by rw [HVF.out, if_neg h0])
            clear HVF
            rw [HVF'.out] at HVO
            have T1 : Hid (Lies W9 (some ⟨g5, 0, none⟩) (ics (lgs B))) := Lib.hid (Lies.of_own R7.out)
            have T2 : Hid ((lgs B).length ≤ cap5) := Lib.hid (by rw [HLL'.out]; exact own_cap R7.out)
            have T3 : Hid ((some ⟨g5, 0, none⟩ : Option Addr) = none → cap5 = 0) := Lib.hid (fun e => by cases e)
            have T4 := Lib.hid (TyI.of_own R7.out)
            obtain ⟨w6, hw6⟩ : ∃ x, x = W9 := ⟨_, rfl⟩
            subst hw6
            have HR6 := HR9
            have HL6 := HL9
            have HB6 := HB9
            obtain ⟨V, hV⟩ : ∃ V, V = lgs B := ⟨_, rfl⟩
            rw [← hV] at HVO T1 T2 HVF'
            have HV1 : Hid (B.length = V.length) := Lib.hid (by rw [hV]; exact HLL'.out.symm)
            clear hV
            rw [HV1.out]
            obtain ⟨c8, hc8⟩ : ∃ c8, c8 = cap5 := ⟨_, rfl⟩
            subst hc8
            go_wp2_with ((at_builtin; refine wpList_append_srcG _ rfl (.tmp 87) (.tmp 89) _ rfl w4.heap.size 22 i0 _ 1 24 Tryz.underlying29 TI.out TZ0.out TZ1.out TZ2.out rfl (by omega) (.slice A' k c') k (lcs L') rfl (HR6.out.alloc _) (some ⟨w6.heap.size, 0, none⟩) 1 1 [Value.slice (some ⟨g5, 0, none⟩) V.length c8] rfl (fun e => by cases e) (lies_new _ _ _) (by simp) (by simp [Value.oneCell']) (by unfold maxLen; omega) (by omega) (by have := HB6.out.size; simp; omega) (k + 1) rfl ?_; intro A9 c9 w9' ho9 hg9 _))
            have h8 : (some ⟨g5, 0, none⟩ : Option Addr) ≠ none := fun e => by
              have h1 := T1.out
              rw [e] at h1
              obtain ⟨b', off', e', _⟩ := h1 (by rw [List.length_map]; have := HVO.out.1; omega)
              exact absurd e' (by simp)
            have HIT : Hid (InT w6 ((some ⟨g5, 0, none⟩ : Option Addr), c8, V)) := Lib.hid ⟨⟨T1.out, fun e => absurd e h8, by have := HVO.out.1; show V.length ≤ _; omega, T2.out, fun y hy => by have := allR_mem HVO.out.2 hy; omega⟩, fun b' off' e => T4.out b' off' e⟩
            have hsn : LLo w9' w4.heap.size A9 c9 (L' ++ [((some ⟨g5, 0, none⟩ : Option Addr), c8, V)]) := by
              refine LLo.snoc (HL6.out.below ((Below.refl _ _).alloc (Nat.le_refl _) _)) (HIT.out.below ((Below.refl _ _).alloc (Nat.le_refl _) _)) hg9 ?_
              have h1 := ho9
              rw [← HLK.out] at h1
              exact h1
            have hbel : Below w4.heap.size w4 w9' := (HB6.out.alloc HB6.out.size _).grown hg9 (by have := HB6.out.size; simp; omega) (fun q hq => (HR6.out.lt q hq).1)
            exact ⟨⟨k + 1, by omega, by go_num, A9, c9, _, rfl, by simp [HLK.out], by rw [List.range_succ, List.map_append, ← HVS.out, List.map_cons, List.map_nil, ← HYV.out, HVF'.out]; simp, hsn, hbel⟩, by simp [intOf]; omega⟩
    · obtain rfl : k = L4.length := by omega
      have HRAW : Hid (vsOf L' = (frs x size step false).map (vecF win pts edges ce)) := Lib.hid (by rw [HVS.out, HL4.out, frs, HN.out, List.map_map]; rfl)
      have HLE : Hid (L'.length = L4.length) := HLK
      obtain ⟨q0, q1, q2, q3, q4, q5, q6, q7, q8, q9⟩ := rcp_cells DW.out.rcp
      obtain ⟨R, hR⟩ : ∃ R, R = (frs x size step false).map (vecF win pts edges ce) := ⟨_, rfl⟩
      rw [← hR] at HRAW HRV HO
      have HLL0 := Lib.hid (HLL.out.le D4.out.bel.size)
      have HB0 := Lib.hid (D4.out.bel.trans (HBE.out.mono D4.out.bel.size))
      have hRV1 := HRV.out.1
      have hRV2 := HRV.out.2
      have hO := HO.out
      clear HVS HLK HRO HFA V4 O4 hxb HFRM hR HLL HBE HRV HO D4 hC4 hE4
      rw [← HLE.out]
      clear hL4 HL4 HLE hk hlt
      cases diff
      · simp only [Bool.false_eq_true, if_false] at hRV2 hO
        have HO2 := Lib.hid hO
        have HV2 := Lib.hid hRV2
        clear hRV1 hRV2 hO
        cases cen
        · simp only [Bool.false_eq_true, if_false] at HO2
          go_wp2_with fail
          go_ret2
          exact ⟨A', c', L', rfl, Lib.hid (by rw [HRAW.out]; exact HO2.out), HLL0.out, HB0.out⟩
        · simp only [if_true] at HO2
          go_wp2_with fail
          refine (rCenter_any A' c' L' _ HLL0.out.ll (Lib.hid (by rw [HRAW.out]; exact HV2.out))).mono ?_
          rintro e w8 ⟨A8, c8, L8, rfl, v8, o8, b8⟩
          have B8 := Lib.hid b8
          clear b8
          go_wp2_with fail
          go_ret2
          exact ⟨A8, c8, L8, rfl, Lib.hid (by rw [v8.out, HRAW.out]; exact HO2.out), o8.le HB0.out.size, HB0.out.trans (B8.out.mono HB0.out.size)⟩
      · simp only [if_true] at hRV2 hO
        have HO2 := Lib.hid hO
        have HV2 := Lib.hid hRV2
        have HV1 := Lib.hid hRV1
        clear hRV1 hRV2 hO
        go_wp2_with fail
        refine (rDifferences_any A' c' L' _ HLL0.out.ll (Lib.hid (by rw [HRAW.out]; exact HV1.out))).mono ?_
        rintro e w8 ⟨A8, c8, L8, rfl, v8, o8, b8⟩
        have q9' := (b8.cell (p := ⟨w.heap.size + 1, 9, none⟩) (Array.getElem?_eq_some_iff.1 DW.out.rcp).1).trans q9
        have B8 := Lib.hid (HB0.out.trans (b8.mono HB0.out.size))
        have V8 := Lib.hid v8.out
        have O8 := Lib.hid (o8.le HB0.out.size)
        clear b8 v8 o8 q0 q1 q2 q3 q4 q5 q6 q7 q8 q9
        cases cen
        · simp only [Bool.false_eq_true, if_false] at HO2
          go_wp2_with fail
          go_ret2
          exact ⟨A8, c8, L8, rfl, Lib.hid (by rw [V8.out, HRAW.out]; exact HO2.out), O8.out, B8.out⟩
        · simp only [if_true] at HO2
          go_wp2_with fail
          refine (rCenter_any A8 c8 L8 _ O8.out.ll (Lib.hid (by rw [V8.out, HRAW.out]; exact HV2.out))).mono ?_
          rintro e w9 ⟨A9, c9, L9, rfl, v9, o9, b9⟩
          have B9 := Lib.hid (B8.out.trans (b9.mono B8.out.size))
          have hbs := B8.out.size
          clear b9
          go_wp2_with fail
          go_ret2
          exact ⟨A9, c9, L9, rfl, Lib.hid (by rw [v9.out, V8.out, HRAW.out]; exact HO2.out), o9.le hbs, B9.out⟩
end Go.Proofs.YtnflpnbpigcfhabGreatDoor
/- FeatureExtracts: the walk (printed by mk_lext.py) -/
namespace Go.Proofs.YtnflpnbpigcfhabGreatDoor
open Go.RowKit Ear

theorem rcp_dec (r : Rcp) : ∃ b : Bool, b = true ↔ RcpOk r := by
  by_cases h : RcpOk r
  · exact ⟨true, Iff.intro (fun _ => h) (fun _ => rfl)⟩
  · exact ⟨false, Iff.intro (fun e => by cases e) (fun e => absurd e h)⟩
set_option maxRecDepth 100000 in
set_option maxHeartbeats 2000000 in
theorem FeatureExtracts_far (rate : Int) (A : Option Addr) (c : Nat) (l : List Int) (num den size step win points : Int) (E : Option Addr) (ec : Nat) (edges : List Int) (ce : Int) (diff cen : Bool) (w : World) (hC : CosOk w) (hk : Kn)
    (hb : 300 < l.length ∨ (l.length ≤ 300 ∧ 70 < edges.length)) :
    Calls Tryz.prog 3 #[recV rate A l.length c, .agg #[.int .i64 num, .int .i64 den, .int .i64 size, .int .i64 step, .int .i64 win, .int .i64 points, .slice E edges.length ec, .int .i64 ce, .bool diff, .bool cen]] w (RetB true w) := by
  have D0 := Lib.hid (RcBox.new w rate A l.length c ⟨num, den, size, step, win, points, E, ec, edges, ce, diff, cen⟩)
  have C0 := Lib.hid (hC.below D0.out.bel)
  rcases hb with h1 | ⟨h1, h2⟩
  all_goals
    go_enter Tryz.func3, Tryz.ntmps3
    go_wp2_with fail
    refine (hk _ C0.out).mono ?_
    rintro e w1 ⟨rfl, hb1⟩
    have B1 := Lib.hid (D0.out.bel.trans (hb1.mono D0.out.bel.size))
    clear hb1
    go_wp2_with fail
    go_ret
    exact ⟨rfl, B1.out⟩
/-- what the recording and the recipe give -/
def ExtCase (rate : Int) (A : Option Addr) (c : Nat) (l : List Int) (r : Rcp) (bw br : Bool) (err : Int) (out : List (List Int)) : Prop :=
  (∀ W, CosOk W → Lies W A (ics l) → Lies W r.E (ics r.edges) → Calls Tryz.prog 5 #[recV rate A l.length c, r.val] W (LLErr err out W)) ∧
  ((bw && br) = true → err = 0 ∧ ∀ W, CosOk W → Lies W A (ics l) → Lies W r.E (ics r.edges) → Calls Tryz.prog 9 #[recV rate A l.length c, r.val] W (LLErr err out W)) ∧
  ((bw && br) = false → err = 2 ∧ out = [])
set_option maxRecDepth 100000 in
set_option maxHeartbeats 8000000 in
theorem FeatureExtracts_ok (rate : Int) (A : Option Addr) (c : Nat) (l : List Int) (num den size step win points : Int) (E : Option Addr) (ec : Nat) (edges : List Int) (ce : Int) (diff cen : Bool) (w : World) (hC : CosOk w) (hk : Kn)
    (h : Lies w A (ics l)) (hE : Lies w E (ics edges)) (hp : points ≤ 9223372036854775807) (hn : l.length ≤ 300) (hel : edges.length ≤ 70) (bw br : Bool) (hbw : Hid (decide (chk rate l = 0) = bw)) (hbr : Hid (br = true ↔ RcpOk ⟨num, den, size, step, win, points, E, ec, edges, ce, diff, cen⟩))
    (err : Int) (out : List (List Int)) (hol : out.length ≤ 400) (HT : Hid (ExtCase rate A c l ⟨num, den, size, step, win, points, E, ec, edges, ce, diff, cen⟩ bw br err out)) :
    Calls Tryz.prog 3 #[recV rate A l.length c, .agg #[.int .i64 num, .int .i64 den, .int .i64 size, .int .i64 step, .int .i64 win, .int .i64 points, .slice E edges.length ec, .int .i64 ce, .bool diff, .bool cen]] w (RetB true w) := by
  have D0 := Lib.hid (RcBox.new w rate A l.length c ⟨num, den, size, step, win, points, E, ec, edges, ce, diff, cen⟩)
  go_enter Tryz.func3, Tryz.ntmps3
  go_wp2_with fail
  refine (HT.out.1 _ (hC.below D0.out.bel) (h.below D0.out.bel) (hE.below D0.out.bel)).mono ?_
  rintro e w1 ⟨A1, c1, L1, rfl, v1, o1, b1⟩
  have D1 := Lib.hid (D0.out.below b1)
  have V1 := Lib.hid v1.out
  have M1 := Lib.hid o1.ll
  have HN1 : Hid (L1.length = out.length) := Lib.hid (by have := congrArg List.length V1.out; simpa using this)
  clear v1 o1 b1 D0
  go_wp2_with fail
  have S1 : Hid (w1.cell? ⟨w.heap.size + 1, 0, none⟩ = some (.int .i64 num) ∧ w1.cell? ⟨w.heap.size + 1, 1, none⟩ = some (.int .i64 den) ∧ w1.cell? ⟨w.heap.size + 1, 2, none⟩ = some (.int .i64 size) ∧ w1.cell? ⟨w.heap.size + 1, 3, none⟩ = some (.int .i64 step) ∧ w1.cell? ⟨w.heap.size + 1, 4, none⟩ = some (.int .i64 win) ∧ w1.cell? ⟨w.heap.size + 1, 5, none⟩ = some (.int .i64 points) ∧ w1.cell? ⟨w.heap.size + 1, 6, none⟩ = some (.slice E edges.length ec) ∧ w1.cell? ⟨w.heap.size + 1, 7, none⟩ = some (.int .i64 ce) ∧ w1.cell? ⟨w.heap.size + 1, 8, none⟩ = some (.bool diff) ∧ w1.cell? ⟨w.heap.size + 1, 9, none⟩ = some (.bool cen)) := Lib.hid (rcp_cells D1.out.rcp)
  go_cut [5, 6, 30] (fun t5 t6 t30 wx => t5 = .slice A1 L1.length c1 ∧ t6 = .int .i64 err ∧ t30 = .bool false ∧ Below w1.heap.size w1 wx)
  case first =>
    go_region_held3 (fun w' => w'.cell? ⟨w.heap.size + 1, 0, none⟩ = some (.int .i64 num) ∧ w'.cell? ⟨w.heap.size + 1, 1, none⟩ = some (.int .i64 den) ∧ w'.cell? ⟨w.heap.size + 1, 2, none⟩ = some (.int .i64 size) ∧ w'.cell? ⟨w.heap.size + 1, 3, none⟩ = some (.int .i64 step) ∧ w'.cell? ⟨w.heap.size + 1, 4, none⟩ = some (.int .i64 win) ∧ w'.cell? ⟨w.heap.size + 1, 5, none⟩ = some (.int .i64 points) ∧ w'.cell? ⟨w.heap.size + 1, 6, none⟩ = some (.slice E edges.length ec) ∧ w'.cell? ⟨w.heap.size + 1, 7, none⟩ = some (.int .i64 ce) ∧ w'.cell? ⟨w.heap.size + 1, 8, none⟩ = some (.bool diff) ∧ w'.cell? ⟨w.heap.size + 1, 9, none⟩ = some (.bool cen))
      (first | exact S1.out | exact SV.out | exact SR.out | exact SVR.out | exact SRV.out)
      (first
        | (go_at_call 6; refine (fValid_any ⟨num, den, size, step, win, points, E, ec, edges, ce, diff, cen⟩ _ ?_ (by simp only; omega) hp br hbr).mono ?_; (first | exact hE.below DR.out.bel | exact Lies.drew (hE.below D1.out.bel)); rintro e wV ⟨rfl, hbV⟩; (first | (have DRV := Lib.hid (DR.out.below hbV); have SRV : Hid (wV.cell? ⟨w.heap.size + 1, 0, none⟩ = some (.int .i64 num) ∧ wV.cell? ⟨w.heap.size + 1, 1, none⟩ = some (.int .i64 den) ∧ wV.cell? ⟨w.heap.size + 1, 2, none⟩ = some (.int .i64 size) ∧ wV.cell? ⟨w.heap.size + 1, 3, none⟩ = some (.int .i64 step) ∧ wV.cell? ⟨w.heap.size + 1, 4, none⟩ = some (.int .i64 win) ∧ wV.cell? ⟨w.heap.size + 1, 5, none⟩ = some (.int .i64 points) ∧ wV.cell? ⟨w.heap.size + 1, 6, none⟩ = some (.slice E edges.length ec) ∧ wV.cell? ⟨w.heap.size + 1, 7, none⟩ = some (.int .i64 ce) ∧ wV.cell? ⟨w.heap.size + 1, 8, none⟩ = some (.bool diff) ∧ wV.cell? ⟨w.heap.size + 1, 9, none⟩ = some (.bool cen)) := Lib.hid (rcp_cells DRV.out.rcp)) | (have DV := Lib.hid (RcBox.below (W := w1) D1.out (below_undrew hbV)); have SV : Hid (wV.cell? ⟨w.heap.size + 1, 0, none⟩ = some (.int .i64 num) ∧ wV.cell? ⟨w.heap.size + 1, 1, none⟩ = some (.int .i64 den) ∧ wV.cell? ⟨w.heap.size + 1, 2, none⟩ = some (.int .i64 size) ∧ wV.cell? ⟨w.heap.size + 1, 3, none⟩ = some (.int .i64 step) ∧ wV.cell? ⟨w.heap.size + 1, 4, none⟩ = some (.int .i64 win) ∧ wV.cell? ⟨w.heap.size + 1, 5, none⟩ = some (.int .i64 points) ∧ wV.cell? ⟨w.heap.size + 1, 6, none⟩ = some (.slice E edges.length ec) ∧ wV.cell? ⟨w.heap.size + 1, 7, none⟩ = some (.int .i64 ce) ∧ wV.cell? ⟨w.heap.size + 1, 8, none⟩ = some (.bool diff) ∧ wV.cell? ⟨w.heap.size + 1, 9, none⟩ = some (.bool cen)) := Lib.hid (rcp_cells DV.out.rcp))))
        | (go_at_call 7; refine (rfValid_any ⟨num, den, size, step, win, points, E, ec, edges, ce, diff, cen⟩ _ ?_ (by simp only; omega) hp br hbr).mono ?_; (first | exact hE.below DV.out.bel | exact Lies.drew (hE.below D1.out.bel)); rintro e wR ⟨rfl, hbR⟩; (first | (have DVR := Lib.hid (DV.out.below hbR); have SVR : Hid (wR.cell? ⟨w.heap.size + 1, 0, none⟩ = some (.int .i64 num) ∧ wR.cell? ⟨w.heap.size + 1, 1, none⟩ = some (.int .i64 den) ∧ wR.cell? ⟨w.heap.size + 1, 2, none⟩ = some (.int .i64 size) ∧ wR.cell? ⟨w.heap.size + 1, 3, none⟩ = some (.int .i64 step) ∧ wR.cell? ⟨w.heap.size + 1, 4, none⟩ = some (.int .i64 win) ∧ wR.cell? ⟨w.heap.size + 1, 5, none⟩ = some (.int .i64 points) ∧ wR.cell? ⟨w.heap.size + 1, 6, none⟩ = some (.slice E edges.length ec) ∧ wR.cell? ⟨w.heap.size + 1, 7, none⟩ = some (.int .i64 ce) ∧ wR.cell? ⟨w.heap.size + 1, 8, none⟩ = some (.bool diff) ∧ wR.cell? ⟨w.heap.size + 1, 9, none⟩ = some (.bool cen)) := Lib.hid (rcp_cells DVR.out.rcp)) | (have DR := Lib.hid (RcBox.below (W := w1) D1.out (below_undrew hbR)); have SR : Hid (wR.cell? ⟨w.heap.size + 1, 0, none⟩ = some (.int .i64 num) ∧ wR.cell? ⟨w.heap.size + 1, 1, none⟩ = some (.int .i64 den) ∧ wR.cell? ⟨w.heap.size + 1, 2, none⟩ = some (.int .i64 size) ∧ wR.cell? ⟨w.heap.size + 1, 3, none⟩ = some (.int .i64 step) ∧ wR.cell? ⟨w.heap.size + 1, 4, none⟩ = some (.int .i64 win) ∧ wR.cell? ⟨w.heap.size + 1, 5, none⟩ = some (.int .i64 points) ∧ wR.cell? ⟨w.heap.size + 1, 6, none⟩ = some (.slice E edges.length ec) ∧ wR.cell? ⟨w.heap.size + 1, 7, none⟩ = some (.int .i64 ce) ∧ wR.cell? ⟨w.heap.size + 1, 8, none⟩ = some (.bool diff) ∧ wR.cell? ⟨w.heap.size + 1, 9, none⟩ = some (.bool cen)) := Lib.hid (rcp_cells DR.out.rcp)))))
    all_goals
      go_wp2_with fail
      go_meet
      exact ⟨rfl, rfl, by simp, below_undrew (hbV.trans (hbR.mono hbV.size))⟩
  case rest =>
    obtain ⟨rfl, rfl, rfl, BX⟩ := hcut
    rename_i wx
    have D2 := Lib.hid (D1.out.below BX)
    have M2 := Lib.hid (M1.out.below BX)
    clear BX D1 S1 M1
    have HRF := Lib.hid (fun W (hW : Lies W E (ics edges)) => rfValid_any ⟨num, den, size, step, win, points, E, ec, edges, ce, diff, cen⟩ W hW (by simp only; omega) hp br hbr)
    clear hbr
    obtain ⟨r0, r1⟩ := rec_cells D2.out.rec_
    obtain ⟨q0, q1, q2, q3, q4, q5, q6, q7, q8, q9⟩ := rcp_cells D2.out.rcp
    cases bw with
    | false =>
      obtain ⟨e1, e2⟩ := HT.out.2.2 rfl
      subst e1 e2
      have hl0 : L1.length = 0 := HN1.out
      go_wp2_with fail
      refine (rValid_any rate A c l _ (h.below D2.out.bel) (by omega) false hbw).mono ?_
      rintro e w3 ⟨rfl, hb3⟩
      have D3 := Lib.hid (D2.out.below hb3)
      clear hb3 D2 r0 r1 q0 q1 q2 q3 q4 q5 q6 q7 q8 q9
      go_wp2_with fail
      refine (hk _ (hC.below D3.out.bel)).mono ?_
      rintro e w4 ⟨rfl, hb4⟩
      have B4 := Lib.hid (D3.out.bel.trans (hb4.mono D3.out.bel.size))
      clear hb4
      go_wp2_with fail
      go_ret
      exact ⟨rfl, B4.out⟩
    | true =>
      cases br with
      | false =>
        obtain ⟨e1, e2⟩ := HT.out.2.2 rfl
        subst e1 e2
        have hl0 : L1.length = 0 := HN1.out
        go_wp2_with fail
        refine (rValid_any rate A c l _ (h.below D2.out.bel) (by omega) true hbw).mono ?_
        rintro e w3 ⟨rfl, hb3⟩
        have D3 := Lib.hid (D2.out.below hb3)
        clear hb3 D2 r0 r1 q0 q1 q2 q3 q4 q5 q6 q7 q8 q9
        obtain ⟨q0, q1, q2, q3, q4, q5, q6, q7, q8, q9⟩ := rcp_cells D3.out.rcp
        go_wp2_with fail
        refine (HRF.out _ (hE.below D3.out.bel)).mono ?_
        rintro e w4 ⟨rfl, hb4⟩
        have D4 := Lib.hid (D3.out.below hb4)
        clear hb4 D3 q0 q1 q2 q3 q4 q5 q6 q7 q8 q9
        go_wp2_with fail
        refine (hk _ (hC.below D4.out.bel)).mono ?_
        rintro e w5 ⟨rfl, hb5⟩
        have B5 := Lib.hid (D4.out.bel.trans (hb5.mono D4.out.bel.size))
        clear hb5
        go_wp2_with fail
        go_ret
        exact ⟨rfl, B5.out⟩
      | true =>
        obtain ⟨e1, hX⟩ := HT.out.2.1 rfl
        subst e1
        have HX := Lib.hid hX
        clear hX
        go_wp2_with fail
        refine (rValid_any rate A c l _ (h.below D2.out.bel) (by omega) true hbw).mono ?_
        rintro e w3 ⟨rfl, hb3⟩
        have D3 := Lib.hid (D2.out.below hb3)
        have M3 := Lib.hid (M2.out.below hb3)
        clear hb3 D2 M2 r0 r1 q0 q1 q2 q3 q4 q5 q6 q7 q8 q9
        obtain ⟨q0, q1, q2, q3, q4, q5, q6, q7, q8, q9⟩ := rcp_cells D3.out.rcp
        go_wp2_with fail
        refine (HRF.out _ (hE.below D3.out.bel)).mono ?_
        rintro e w4 ⟨rfl, hb4⟩
        have D4 := Lib.hid (D3.out.below hb4)
        have M4 := Lib.hid (M3.out.below hb4)
        clear hb4 D3 M3 q0 q1 q2 q3 q4 q5 q6 q7 q8 q9
        obtain ⟨r0, r1⟩ := rec_cells D4.out.rec_
        obtain ⟨q0, q1, q2, q3, q4, q5, q6, q7, q8, q9⟩ := rcp_cells D4.out.rcp
        go_wp2_with fail
        refine (HX.out _ (hC.below D4.out.bel) (h.below D4.out.bel) (hE.below D4.out.bel)).mono ?_
        rintro e w5 ⟨A5, c5, L5, rfl, v5, o5, b5⟩
        have D5 := Lib.hid (D4.out.below b5)
        have M5 := Lib.hid (M4.out.below b5)
        have N5 := Lib.hid o5.ll
        have HV : Hid (decide (vsOf L1 = vsOf L5) = true) := Lib.hid (by rw [V1.out, v5.out]; simp)
        have hl1 : L1.length ≤ 400 := by rw [HN1.out]; exact hol
        clear v5 o5 b5 D4 M4 r0 r1 q0 q1 q2 q3 q4 q5 q6 q7 q8 q9
        go_wp2_with fail
        refine (SameLists_any A1 A5 c1 c5 L1 L5 w5 M5.out N5.out (by omega) true HV).mono ?_
        rintro e w6 ⟨rfl, n6, rfl⟩
        have B6 : Hid (Below w.heap.size w (w5.drewN n6)) := Lib.hid (D5.out.bel.trans (below_drewN' _ _))
        have C6 : Hid (CosOk (w5.drewN n6)) := Lib.hid (hC.below B6.out)
        go_wp2_with fail
        refine (hk _ C6.out).mono ?_
        rintro e w7 ⟨rfl, hb7⟩
        have B7 := Lib.hid (B6.out.trans (hb7.mono B6.out.size))
        clear hb7
        go_wp2_with fail
        go_ret
        exact ⟨rfl, B7.out⟩
theorem extL_length (l : List Int) (num den : Int) (size step : Nat) (win : Int) (pts : Nat) (edges : List Int) (ce : Nat) (diff cen : Bool) : (extL l num den size step win pts edges ce diff cen).length = frN l.length size step false := by
  unfold extL
  cases diff <;> cases cen <;> simp [difL_length, cenL_length, rawV_length]
theorem FeatureExtracts_any (rate : Int) (A : Option Addr) (c : Nat) (l : List Int) (r : Rcp) (w : World) (hC : CosOk w) (hk : Kn) (h : Lies w A (ics l)) (hA : A = none → c = 0 ∧ l = []) (hE : Lies w r.E (ics r.edges)) (hp : r.points ≤ 9223372036854775807) :
    Calls Tryz.prog 3 #[recV rate A l.length c, r.val] w (RetB true w) := by
  obtain ⟨br, hbr⟩ := rcp_dec r
  obtain ⟨num, den, size, step, win, points, E, ec, edges, ce, diff, cen⟩ := r
  by_cases h1 : l.length ≤ 300
  · by_cases h2 : edges.length ≤ 70
    · cases hbw : decide (chk rate l = 0) with
      | false =>
        exact FeatureExtracts_ok rate A c l num den size step win points E ec edges ce diff cen w hC hk h hE hp h1 h2 false br (Lib.hid hbw) (Lib.hid hbr) 2 [] (by simp)
          (Lib.hid ⟨fun W _ hl _ => Extract_badw rate A c l num den size step win points E ec edges ce diff cen W hl (by omega) (Lib.hid hbw), (fun e => by simp at e), (fun _ => ⟨rfl, rfl⟩)⟩)
      | true =>
        cases br with
        | false =>
          exact FeatureExtracts_ok rate A c l num den size step win points E ec edges ce diff cen w hC hk h hE hp h1 h2 true false (Lib.hid hbw) (Lib.hid hbr) 2 [] (by simp)
            (Lib.hid ⟨fun W _ hl he => Extract_badr rate A c l num den size step win points E ec edges ce diff cen W hl (by omega) he (by show edges.length ≤ _; omega) hp (Lib.hid hbw) (Lib.hid (fun hr => by have := hbr.2 hr; cases this)), (fun e => by simp at e), (fun _ => ⟨rfl, rfl⟩)⟩)
        | true =>
          have ok := hbr.1 rfl
          have z1 := ok.p0
          have z2 := ok.s0
          have z3 := ok.t0
          have z4 := ok.c0
          simp only at z1 z2 z3 z4
          have e1 : points = (points.toNat : Int) := by omega
          have e2 : size = (size.toNat : Int) := by omega
          have e3 : step = (step.toNat : Int) := by omega
          have e4 : ce = (ce.toNat : Int) := by omega
          generalize points.toNat = pts at e1
          generalize size.toNat = sz at e2
          generalize step.toNat = st at e3
          generalize ce.toNat = cp at e4
          subst e1 e2 e3 e4
          have hle := frN_le (n := l.length) (pad := false) (show 1 ≤ sz by omega) (show 1 ≤ st by omega)
          exact FeatureExtracts_ok rate A c l num den sz st win pts E ec edges cp diff cen w hC hk h hE hp h1 h2 true true (Lib.hid hbw) (Lib.hid hbr) 0 (extL l num den sz st win pts edges cp diff cen) (by rw [extL_length]; omega)
            (Lib.hid ⟨fun W hc hl he => Extract_ok rate A c l num den sz st win pts E ec edges cp diff cen W hc hl hA (by omega) he (Lib.hid hbw) (Lib.hid ok) _ (Lib.hid rfl),
              (fun _ => ⟨rfl, fun W hc hl he => rExtract_ok rate A c l num den sz st win pts E ec edges cp diff cen W hc hl (by omega) he (Lib.hid hbw) (Lib.hid ok) _ (Lib.hid rfl)⟩), (fun e => by simp at e)⟩)
    · exact FeatureExtracts_far rate A c l num den size step win points E ec edges ce diff cen w hC hk (.inr ⟨h1, by omega⟩)
  · exact FeatureExtracts_far rate A c l num den size step win points E ec edges ce diff cen w hC hk (.inl (by omega))
end Go.Proofs.YtnflpnbpigcfhabGreatDoor
