/- FeatureCenters: the walk -/
import Derived.Test.YtfapmghhmkekaaaDoorLVec
namespace Go.Proofs.YtfapmghhmkekaaaDoor
open Go.RowKit Ear

set_option maxRecDepth 100000 in
set_option maxHeartbeats 1000000 in
theorem FeatureCenters_out (A : Option Addr) (c : Nat) (L : List Inn) (w : World) (hA : LL w A L) (hn : L.length ≤ 9223372036854775807) (hC : CosOk w) (hk : Kn) (h : fewR (vsOf L) 40 = false ∨ vecR (vsOf L) ≠ 0 ∨ L.length = 0) :
    Calls Tryd.prog 12 #[.slice A L.length c] w (RetB true w) := by
  cases hf : fewR (vsOf L) 40 with
  | false =>
    have HF := Lib.hid hf
    clear h hf
    go_enter Tryd.func12, Tryd.ntmps12
    go_wp2_with fail
    refine (few_any A c 40 L w hA hn (by omega) false HF).mono ?_
    rintro e w' ⟨rfl, rfl⟩
    go_wp2_with fail
    refine (hk _ hC).mono ?_
    rintro e w9 ⟨rfl, hb9⟩
    go_wp2_with fail
    go_ret
    exact ⟨rfl, hb9⟩
  | true =>
    have HF := Lib.hid hf
    obtain ⟨r, hr⟩ : ∃ r, vecR (vsOf L) = r := ⟨_, rfl⟩
    rw [hf, hr] at h
    have HR := Lib.hid hr
    clear hf hr
    by_cases h0 : r = 0
    · subst h0
      have hz : L.length = 0 := by
        rcases h with h | h | h
        · cases h
        · exact absurd rfl h
        · exact h
      have HZ := Lib.hid hz
      clear h hz
      go_enter Tryd.func12, Tryd.ntmps12
      go_wp2_with fail
      refine (few_any A c 40 L w hA hn (by omega) true HF).mono ?_
      rintro e w' ⟨rfl, rfl⟩
      go_wp2_with fail
      refine (r3Wrong_any A c L w hA hn 0 HR).mono ?_
      rintro e w3 ⟨rfl, n3, rfl⟩
      have B3 := Lib.hid (below_drewN' (B := w.heap.size) w n3)
      have hz := HZ.out
      clear HZ
      generalize L.length = ll at *
      subst hz
      go_wp2_with fail
      refine (hk _ (hC.below B3.out)).mono ?_
      rintro e w9 ⟨rfl, hb9⟩
      go_wp2_with fail
      go_ret
      exact ⟨rfl, B3.out.trans hb9⟩
    · have q0 : (r != 0) = true := by simpa using h0
      clear h
      go_enter Tryd.func12, Tryd.ntmps12
      go_wp2_with fail
      refine (few_any A c 40 L w hA hn (by omega) true HF).mono ?_
      rintro e w' ⟨rfl, rfl⟩
      go_wp2_with fail
      refine (r3Wrong_any A c L w hA hn r HR).mono ?_
      rintro e w3 ⟨rfl, n3, rfl⟩
      have B3 := Lib.hid (below_drewN' (B := w.heap.size) w n3)
      go_wp2_with fail
      refine (hk _ (hC.below B3.out)).mono ?_
      rintro e w9 ⟨rfl, hb9⟩
      go_wp2_with fail
      go_ret
      exact ⟨rfl, B3.out.trans hb9⟩

set_option maxRecDepth 100000 in
set_option maxHeartbeats 8000000 in
theorem FeatureCenters_ok (A : Option Addr) (c : Nat) (L : List Inn) (w : World) (hA : LL w A L) (h40 : L.length ≤ 40) (hC : CosOk w) (hk : Kn) (HF : Hid (fewR (vsOf L) 40 = true)) (HR : Hid (vecR (vsOf L) = 0)) (hpos : 0 < L.length)
    (e1 : Int) (out1 : List (List Int)) (H1 : Hid (cenR (vsOf L) = (e1, out1))) (Hq : Hid ((e1 = 0 ∧ out1 = cenL (vsOf L) ∧ vecR (cenL (vsOf L)) = 0) ∨ e1 = 2))
    (e3 : Int) (out3 : List (List Int)) (H3 : Hid (difR (vsOf L) = (e3, out3))) (Hd : Hid ((e3 = 0 ∧ out3 = difL (vsOf L) ∧ vecR (difL (vsOf L)) = 0) ∨ e3 = 2)) :
    Calls Tryd.prog 12 #[.slice A L.length c] w (RetB true w) := by
  have HVL : Hid ((vsOf L).length = L.length) := Lib.hid (by simp)
  have HV := Lib.hid (vecR_ok.1 HR.out).2
  have HVC := Lib.hid (vec_vcs HV.out)
  obtain ⟨b0, o0, rfl, hb0, hc0⟩ := hA.lies.lat hpos
  rw [Nat.add_zero] at hc0
  have HL0 := Lib.hid (len0_at hpos)
  have hn64 : L[0].2.2.length ≤ 64 := by
    have := vecOk_mem HV.out (vs_get hpos)
    exact this.2.2.1
  have hX0 := hA.inn _ (List.getElem_mem hpos)
  generalize hx : L[0] = X0 at *
  have HX0 := Lib.hid hx
  clear hx
  obtain ⟨XA, Xc, xl⟩ := X0
  simp only at *
  have HI0 := Lib.hid hX0
  clear hX0
  go_enter Tryd.func12, Tryd.ntmps12
  go_wp2_with fail
  refine (few_any _ c 40 L w hA (by omega) (by omega) true HF).mono ?_
  rintro e w' ⟨rfl, rfl⟩
  go_wp2_with fail
  refine (r3Wrong_any _ c L w hA (by omega) 0 HR).mono ?_
  rintro e w2 ⟨rfl, n2, hw2⟩
  have LA2 : Hid (LL w2 (some ⟨b0, o0, none⟩) L) := Lib.hid (by rw [hw2]; exact hA.below (below_drewN' _ _))
  have B2 : Hid (Below w.heap.size w w2) := Lib.hid (by rw [hw2]; exact below_drewN' _ _)
  clear hw2
  have q5 : ((L.length : Int) == 0) = false := by rw [beq_eq_false_iff_ne]; omega
  have q6 : ¬ L = [] := fun e => by rw [e] at hpos; simp at hpos
  go_wp2_with fail
  refine (Center_any _ c L w2 LA2.out (by omega) e1 out1 H1).mono ?_
  rintro e w3 ⟨Ac, cc, Oc, rfl, hvc, hlc, hb3⟩
  have B3 := Lib.hid (B2.out.trans (hb3.mono B2.out.size))
  have LC3 := Lib.hid hlc.ll
  clear hb3 hlc LA2 B2 q5
  go_upto_if 37 with (fail)
  go_cut [3, 4, 5, 6, 7, 8, 9] from 38 to 90 (fun _ _ _ _ _ _ _ wx => Below w.heap.size w wx)
  case first =>
    rcases Hq.out with ⟨rfl, h2, h3⟩ | rfl
    · obtain ⟨e2, out2, h4⟩ : ∃ e2 out2, cenR (vsOf Oc) = (e2, out2) := ⟨_, _, rfl⟩
      have HVc : Hid (vsOf Oc = cenL (vsOf L)) := Lib.hid (by rw [hvc.out, h2])
      have N1 : Hid (Oc.length = L.length) := Lib.hid (by have := congrArg List.length HVc.out; rw [cenL_length] at this; simpa using this)
      have H4 := Lib.hid h4
      have HBc := Lib.hid (fun q t : Nat => colS_bd (vs := vsOf Oc) (fun x hx => (vecOk_mem (vecR_ok.1 (show vecR (vsOf Oc) = 0 by rw [HVc.out]; exact h3)).2 hx).2.2.2) q t)
      have HVCc := Lib.hid (vec_vcs (vecR_ok.1 (show vecR (vsOf Oc) = 0 by rw [HVc.out]; exact h3)).2)
      have HL0c : Hid (len0 (vsOf Oc) = xl.length) := Lib.hid (by rw [HVc.out, len0_cen (by rw [HVL.out]; exact hpos)]; exact HL0.out)
      have HS : Hid (∀ q, q < xl.length → -(L.length : Int) ≤ 2 * colS (vsOf Oc) q L.length ∧ 2 * colS (vsOf Oc) q L.length ≤ L.length) := Lib.hid (fun q hq => by
        have := cen_sum (vs := vsOf L) (fun x hx => (HVC.out x hx).1) (by rw [HVL.out]; exact hpos) (c := q) (by rw [HL0.out]; exact hq)
        rw [HVL.out] at this
        rw [HVc.out]; exact this)
      have HVR : Hid (vecR (vsOf Oc) = 0) := Lib.hid (by rw [HVc.out]; exact h3)
      clear h2 h3 h4
      go_wp2_with fail
      refine (Center_any Ac cc Oc w3 LC3.out (by rw [N1.out]; omega) e2 out2 H4).mono ?_
      rintro e w4 ⟨Ae, ce, Oe, rfl, hve, hle, hb4⟩
      have B4 := Lib.hid (B3.out.trans (hb4.mono B3.out.size))
      have LC4 := Lib.hid (LC3.out.below hb4)
      have LE4 := Lib.hid hle.ll
      have hc4 : w4.cell? ⟨b0, o0, none⟩ = some (.slice XA xl.length Xc) := (B4.out.cell (p := ⟨b0, o0, none⟩) hb0).trans hc0
      have hb04 : b0 < w4.heap.size := Nat.lt_of_lt_of_le hb0 B4.out.size
      clear hb4 hle B3 LC3 hc0
      go_wp2_with fail
      go_loop [7, 8, 9] (fun i _ _ => ∃ k : Nat, k ≤ xl.length ∧ i = .int .i64 k ∧ Hid (∀ q, q < k → -(L.length : Int) < 2 * colS (vsOf Oc) q L.length ∧ 2 * colS (vsOf Oc) q L.length < L.length)) (fun i _ _ => xl.length - (intOf i).toNat)
      case atStart => exact ⟨0, by omega, rfl, Lib.hid (fun q hq => absurd hq (by omega))⟩
      case round =>
        obtain ⟨k, hk9, rfl, hp⟩ := hrel
        by_cases hlk : k < xl.length
        · go_wp2_with fail
          go_loop [8, 9] (fun s i => ∃ m : Nat, m ≤ L.length ∧ i = .int .i64 m ∧ s = .int .i64 (colS (vsOf Oc) k m)) (fun _ i => L.length - (intOf i).toNat)
          case atStart => exact ⟨0, by omega, rfl, rfl⟩
          case round =>
            obtain ⟨m, hm, rfl, rfl⟩ := hrel
            by_cases hlm : m < L.length
            · obtain ⟨bk, off, rfl, hbk, hc⟩ := LC4.out.lies.lat (k := m) (by rw [N1.out]; exact hlm)
              have hx := LC4.out.inn _ (List.getElem_mem (l := Oc) (n := m) (by rw [N1.out]; exact hlm))
              have hgx := HVCc.out.getD (t := m) (by simp; rw [N1.out]; exact hlm)
              have e3 : Hid (colS (vsOf Oc) k (m + 1) = colS (vsOf Oc) k m + (Oc[m]'(by rw [N1.out]; exact hlm)).2.2[k]?.getD 0) := Lib.hid (by
                show colS (vsOf Oc) k m + _ = _
                rw [vsOf_get])
              rw [vsOf_get (by rw [N1.out]; exact hlm), HL0c.out] at hgx
              generalize Oc[m]'(by rw [N1.out]; exact hlm) = X at *
              obtain ⟨YA, Yc, yl⟩ := X
              simp only at *
              have G2 := Lib.hid hgx.2
              have hky : k < yl.length := by rw [hgx.1]; exact hlk
              obtain ⟨by_, oy, rfl, hby, hcy⟩ := hx.1.at_ hky
              have b1 := getD_bd G2.out (by omega) (by omega) k
              have b2 := HBc.out k m
              have hlo : m < Oc.length := by rw [N1.out]; exact hlm
              clear hgx hx
              generalize yl[k]?.getD 0 = x at *
              generalize hy : colS (vsOf Oc) k m = y at *
              have HY := Lib.hid hy
              clear hy
              have p1 : IntKind.i64.wrap (y + x) = y + x := IntWalk.i64_in _ (by omega)
              go_wp2_with fail
              exact ⟨⟨m + 1, by omega, by go_num, by rw [e3.out]⟩, by simp [intOf]; omega⟩
            · obtain rfl : m = L.length := by omega
              have hs := HS.out k hlk
              have hlo : ¬ L.length < Oc.length := by rw [N1.out]; omega
              have hp1 : (2 * colS (vsOf Oc) k L.length = L.length ∨ 2 * colS (vsOf Oc) k L.length = -L.length) ∨ Hid (∀ q, q < k + 1 → -(L.length : Int) < 2 * colS (vsOf Oc) q L.length ∧ 2 * colS (vsOf Oc) q L.length < L.length) := by
                by_cases h : 2 * colS (vsOf Oc) k L.length = L.length ∨ 2 * colS (vsOf Oc) k L.length = -L.length
                · exact .inl h
                · exact .inr (Lib.hid (fun q hq => by
                    by_cases hqk : q = k
                    · subst hqk; omega
                    · exact hp.out q (by omega)))
              generalize colS (vsOf Oc) k L.length = y at *
              have d0 : IntKind.i64.wrap (-y) = -y := IntWalk.i64_in _ (by omega)
              have d1 : IntKind.i64.wrap (2 * max y (-y)) = 2 * max y (-y) := IntWalk.i64_in _ (by omega)
              go_wp2_with fail
              · refine (hk _ (hC.below B4.out)).mono ?_
                rintro e w9 ⟨rfl, hb9⟩
                go_wp2_with fail
                go_ret
                exact ⟨rfl, B4.out.trans (hb9.mono B4.out.size)⟩
              · rcases hp1 with h | h
                · exfalso
                  first
                    | (have := ‹(2 * max y (-y) == (L.length : Int)) = false›; simp at this; omega)
                    | (have := ‹¬(2 * max y (-y) == (L.length : Int)) = true›; simp at this; omega)
                · exact ⟨⟨k + 1, by omega, by go_num, h⟩, by simp [intOf]; omega⟩
        · obtain rfl : k = xl.length := by omega
          have e5 : cenL (vsOf Oc) = vsOf Oc := by
            rw [HVc.out]
            refine cen_again (fun x hx => (HVC.out x hx).1) (by rw [HVL.out]; exact hpos) (fun q hq => ?_)
            rw [HL0.out] at hq
            have := hp.out q hq
            rw [HVc.out] at this
            rw [HVL.out]; exact this
          have h6 : (e2, out2) = (0, vsOf Oc) := by rw [← H4.out, cenR, if_pos HVR.out, e5, if_pos HVR.out]
          injection h6 with h7 h8
          subst h7
          have HE : Hid (vsOf Oe = vsOf Oc) := Lib.hid (by rw [hve.out, h8])
          clear e5 h8
          go_wp2_with fail
          refine (sames_b Ae Ac ce cc Oe Oc w4 LE4.out LC4.out (by have := congrArg List.length HE.out; simp at this; rw [this, N1.out]; omega) true (Lib.hid (decide_eq_true HE.out))).mono ?_
          rintro e w5 ⟨rfl, hb5⟩
          have B5 := Lib.hid (B4.out.trans (hb5.mono B4.out.size))
          clear hb5
          go_wp2_with fail
          go_meet
          exact B5.out
    · go_wp2_with fail
      go_meet
      exact B3.out
  case rest =>
    have B5 := Lib.hid hcut
    have LA5 := Lib.hid (hA.below hcut)
    clear hcut LC3 B3
    go_wp2_with fail
    refine (Differences_any _ c L wc LA5.out (by omega) e3 out3 H3).mono ?_
    rintro e w6 ⟨Ad, cd, Od, rfl, hvd, hld, hb6⟩
    have B6 := Lib.hid (B5.out.trans (hb6.mono B5.out.size))
    have LA6 := Lib.hid (LA5.out.below hb6)
    have LD6 := Lib.hid hld.ll
    have hc6 : w6.cell? ⟨b0, o0, none⟩ = some (.slice XA xl.length Xc) := (B6.out.cell (p := ⟨b0, o0, none⟩) hb0).trans hc0
    have hb06 : b0 < w6.heap.size := Nat.lt_of_lt_of_le hb0 B6.out.size
    have HI6 := Lib.hid (HI0.out.below B6.out)
    clear hld hb6 LA5 B5 hc0
    rcases Hd.out with ⟨rfl, h2, h3⟩ | rfl
    · have HVd : Hid (vsOf Od = difL (vsOf L)) := Lib.hid (by rw [hvd.out, h2])
      have N3 : Hid (Od.length = L.length) := Lib.hid (by have := congrArg List.length HVd.out; rw [difL_length] at this; simpa using this)
      have HVR : Hid (vecOk (vsOf Od) = true) := Lib.hid (by rw [HVd.out]; exact (vecR_ok.1 h3).2)
      have HBd := Lib.hid (fun q t : Nat => colS_bd (vs := vsOf Od) (fun x hx => (vecOk_mem HVR.out hx).2.2.2) q t)
      have HG := Lib.hid (fun (m : Nat) (hm : m < L.length) => show (Od[m]'(by rw [N3.out]; exact hm)).2.2.length = 2 * xl.length ∧ allR (-1048576) 1048576 (Od[m]'(by rw [N3.out]; exact hm)).2.2 = true from by
        have hm' : m < Od.length := by rw [N3.out]; exact hm
        refine ⟨?_, (vecOk_mem HVR.out (vs_get hm')).2.2.2⟩
        have e := vsOf_get hm'
        rw [HVd.out, difL_get (by rw [HVL.out]; exact hm)] at e
        rw [← e, difAt_length (fun x hx => (HVC.out x hx).1) (by rw [HVL.out]; exact hm), HL0.out])
      have HSUM := Lib.hid (fun (k : Nat) (hk : k < xl.length) (h1 : 1 < L.length) => show colS (vsOf Od) (xl.length + k) L.length = cAt (vsOf L) (L.length - 1) k + cAt (vsOf L) (L.length - 1) k - cAt (vsOf L) 0 k - cAt (vsOf L) 0 k from by
        have := dif_sum (vs := vsOf L) (fun x hx => (HVC.out x hx).1) (c := k) (by rw [HL0.out]; exact hk) (by rw [HVL.out]; exact h1)
        rw [HL0.out, HVL.out] at this
        rw [HVd.out]; exact this)
      have q3 : ((Od.length : Int) != (L.length : Int)) = false := by rw [N3.out]; simp
      clear h2 h3
      go_wp2_with fail
      go_loopw [13, 14, 15, 16] (fun i _ _ _ wr => ∃ k : Nat, k ≤ xl.length ∧ i = .int .i64 k ∧ ∃ n, wr = w6.drewN n) (fun i _ _ _ _ => xl.length - (intOf i).toNat)
      case atStart => exact ⟨0, by omega, rfl, 0, rfl⟩
      case round =>
        obtain ⟨k, hk9, rfl, n, rfl⟩ := hrel
        have hc0n : (w6.drewN n).cell? ⟨b0, o0, none⟩ = some (.slice XA xl.length Xc) := hc6
        have hbn : b0 < (w6.drewN n).heap.size := hb06
        by_cases hlk : k < xl.length
        · go_wp2_with fail
          go_loopw [14, 15] (fun s i wr => ∃ m : Nat, m ≤ L.length ∧ i = .int .i64 m ∧ s = .int .i64 (colS (vsOf Od) (xl.length + k) m) ∧ ∃ n, wr = w6.drewN n) (fun _ i _ => L.length - (intOf i).toNat)
          case atStart => exact ⟨0, by omega, rfl, rfl, n, rfl⟩
          case round =>
            obtain ⟨m, hm, rfl, rfl, n2, hwd⟩ := hrel
            have hc0n : wr.cell? ⟨b0, o0, none⟩ = some (.slice XA xl.length Xc) := by rw [hwd]; exact hc6
            have hbn : b0 < wr.heap.size := by rw [hwd]; exact hb06
            have LDn : LL wr Ad Od := by rw [hwd]; exact LD6.out.below (below_drewN' _ _)
            have LAn : LL wr (some ⟨b0, o0, none⟩) L := by rw [hwd]; exact LA6.out.below (below_drewN' _ _)
            have HIn : InOk wr (XA, Xc, xl) := by rw [hwd]; exact HI6.out.below (below_drewN' _ _)
            have WD := Lib.hid hwd
            clear hwd
            by_cases hlm : m < L.length
            · have hlo : m < Od.length := by rw [N3.out]; exact hlm
              obtain ⟨bk, off, rfl, hbk, hc⟩ := LDn.lies.lat hlo
              have hx := LDn.inn _ (List.getElem_mem hlo)
              have hg := HG.out m hlm
              have e3 : Hid (colS (vsOf Od) (xl.length + k) (m + 1) = colS (vsOf Od) (xl.length + k) m + Od[m].2.2[xl.length + k]?.getD 0) := Lib.hid (by
                show colS (vsOf Od) (xl.length + k) m + _ = _
                rw [vsOf_get hlo])
              generalize Od[m] = X at *
              obtain ⟨YA, Yc, yl⟩ := X
              simp only at *
              have G2 := Lib.hid hg.2
              have hl2 : ((yl.length : Int) != 2 * (xl.length : Int)) = false := by rw [hg.1]; simp
              have hky : xl.length + k < yl.length := by rw [hg.1]; omega
              obtain ⟨by_, oy, rfl, hby, hcy⟩ := hx.1.at_ hky
              have b1 := getD_bd G2.out (by omega) (by omega) (xl.length + k)
              have b2 := HBd.out (xl.length + k) m
              clear hg hx LDn LAn HIn
              generalize yl[xl.length + k]?.getD 0 = x at *
              generalize hy : colS (vsOf Od) (xl.length + k) m = y at *
              have HY := Lib.hid hy
              clear hy
              have p1 : IntKind.i64.wrap (y + x) = y + x := IntWalk.i64_in _ (by omega)
              have p2 : IntKind.i64.wrap (2 * (xl.length : Int)) = 2 * (xl.length : Int) := IntWalk.i64_in _ (by omega)
              have p3 : IntKind.i64.wrap ((xl.length : Int) + k) = ((xl.length + k : Nat) : Int) := by rw [IntWalk.i64_in _ (by omega)]; omega
              go_wp2_with fail
              go_quiet (fail)
              go_wp2_with fail
              go_quiet (fail)
              go_wp2_with fail
              exact ⟨⟨m + 1, by omega, by go_num, by rw [e3.out], by rw [WD.out]; exact drewN_ex _ _ _⟩, by simp [intOf]; omega⟩
            · obtain rfl : m = L.length := by omega
              obtain ⟨m1, hm1⟩ : ∃ m1 : Nat, m1 = L.length - 1 := ⟨_, rfl⟩
              have l1 : m1 < L.length := by omega
              obtain ⟨b1, o1, eA, hb1, hc1⟩ := LAn.lies.lat l1
              cases eA
              have hx1 := LAn.inn _ (List.getElem_mem l1)
              have hg1 := vecOk_mem HV.out (vs_get l1)
              have hg0 := vecOk_mem HV.out (vs_get hpos)
              have hsum := HSUM.out k hlk
              have ez : cAt (vsOf L) (L.length - 1) k = L[m1].2.2[k]?.getD 0 := by rw [← hm1]; unfold cAt; rw [vsOf_get l1]
              have ex : cAt (vsOf L) 0 k = xl[k]?.getD 0 := by unfold cAt; rw [vsOf_get hpos, HX0.out]
              rw [ez, ex] at hsum
              rw [HX0.out] at hg0
              rw [HL0.out] at hg1
              clear ez ex
              generalize L[m1] = X at *
              obtain ⟨ZA, Zc, zl⟩ := X
              simp only at *
              have hkz : k < zl.length := by rw [hg1.1]; exact hlk
              obtain ⟨bz, oz, rfl, hbz, hcz⟩ := hx1.1.at_ hkz
              obtain ⟨bx, ox, rfl, hbx, hcx⟩ := HIn.1.at_ hlk
              have b1 := getD_bd hg1.2.2.2 (by omega) (by omega) k
              have b0 := getD_bd hg0.2.2.2 (by omega) (by omega) k
              have e1 : ((L.length : Int) - 1) = (m1 : Int) := by omega
              clear hg1 hg0 hx1 LDn LAn HIn
              generalize zl[k]?.getD 0 = z at *
              generalize xl[k]?.getD 0 = x at *
              generalize hy : colS (vsOf Od) (xl.length + k) L.length = y at *
              have HY := Lib.hid hy
              have HSM := Lib.hid hsum
              clear hy hsum hm1
              have p1 : IntKind.i64.wrap ((L.length : Int) - 1) = (m1 : Int) := by rw [IntWalk.i64_in _ (by omega)]; omega
              have p2 : IntKind.i64.wrap (z + z) = z + z := IntWalk.i64_in _ (by omega)
              have p3 : IntKind.i64.wrap (z + z - x) = z + z - x := IntWalk.i64_in _ (by omega)
              have p4 : IntKind.i64.wrap (z + z - x - x) = z + z - x - x := IntWalk.i64_in _ (by omega)
              clear e1
              by_cases h1 : 1 < L.length
              · have hs := HSM.out h1
                have q9 : (y != z + z - x - x) = false := by rw [hs]; simp
                clear hs
                go_wp2_with fail
                go_quiet (fail)
                go_wp2_with fail
                exact ⟨⟨k + 1, by omega, by go_num, by rw [WD.out]; exact drewN_ex _ _ _⟩, by simp [intOf]; omega⟩
              · go_wp2_with fail
                go_quiet (fail)
                go_wp2_with fail
                exact ⟨⟨k + 1, by omega, by go_num, by rw [WD.out]; exact drewN_ex _ _ _⟩, by simp [intOf]; omega⟩
        · obtain rfl : k = xl.length := by omega
          have B7 := Lib.hid (B6.out.trans (below_drewN' (B := w.heap.size) w6 n))
          go_wp2_with fail
          refine (hk _ (hC.below B7.out)).mono ?_
          rintro e w9 ⟨rfl, hb9⟩
          go_wp2_with fail
          go_ret
          exact ⟨rfl, B7.out.trans (hb9.mono B7.out.size)⟩
    · go_wp2_with fail
      refine (hk _ (hC.below B6.out)).mono ?_
      rintro e w9 ⟨rfl, hb9⟩
      go_wp2_with fail
      go_ret
      exact ⟨rfl, B6.out.trans (hb9.mono B6.out.size)⟩
theorem FeatureCenters_any (A : Option Addr) (c : Nat) (L : List Inn) (w : World) (hL : Lies w A (lcs L)) (hi : ∀ x ∈ L, InOk w x) (hn : L.length ≤ 9223372036854775807) (hC : CosOk w) (hk : Kn) :
    Calls Tryd.prog 12 #[.slice A L.length c] w (RetB true w) := by
  have hA : LL w A L := ⟨hL, hi⟩
  cases hf : fewR (vsOf L) 40 with
  | false => exact FeatureCenters_out A c L w hA hn hC hk (.inl hf)
  | true =>
    by_cases h0 : vecR (vsOf L) = 0
    · by_cases hz : L.length = 0
      · exact FeatureCenters_out A c L w hA hn hC hk (.inr (.inr hz))
      · have hl := (vecR_ok.1 h0).1
        have hvl : (vsOf L).length = L.length := by simp
        have h40 : L.length ≤ 40 := by
          rcases fewR_true hf with h | h <;> omega
        have hld : (difL (vsOf L)).length ≤ 10000 := by rw [difL_length]; exact hl
        have hlc : (cenL (vsOf L)).length ≤ 10000 := by rw [cenL_length]; exact hl
        obtain ⟨e1, out1, H1, Hq⟩ : ∃ e1 out1, cenR (vsOf L) = (e1, out1) ∧ ((e1 = 0 ∧ out1 = cenL (vsOf L) ∧ vecR (cenL (vsOf L)) = 0) ∨ e1 = 2) := by
          cases hc : vecOk (cenL (vsOf L)) with
          | true => have := vecR_ok.2 ⟨hlc, hc⟩; exact ⟨0, _, by rw [cenR, if_pos h0, if_pos this], .inl ⟨rfl, rfl, this⟩⟩
          | false => have := vecR_two hlc hc; exact ⟨2, [], by rw [cenR, if_pos h0, this, if_neg (by omega)], .inr rfl⟩
        obtain ⟨e3, out3, H3, Hd⟩ : ∃ e3 out3, difR (vsOf L) = (e3, out3) ∧ ((e3 = 0 ∧ out3 = difL (vsOf L) ∧ vecR (difL (vsOf L)) = 0) ∨ e3 = 2) := by
          cases hc : vecOk (difL (vsOf L)) with
          | true => have := vecR_ok.2 ⟨hld, hc⟩; exact ⟨0, _, by rw [difR, if_pos h0, if_pos this], .inl ⟨rfl, rfl, this⟩⟩
          | false => have := vecR_two hld hc; exact ⟨2, [], by rw [difR, if_pos h0, this, if_neg (by omega)], .inr rfl⟩
        exact FeatureCenters_ok A c L w hA h40 hC hk (Lib.hid hf) (Lib.hid h0) (by omega) e1 out1 (Lib.hid H1) (Lib.hid Hq) e3 out3 (Lib.hid H3) (Lib.hid Hd)
    · exact FeatureCenters_out A c L w hA hn hC hk (.inr (.inl h0))
end Go.Proofs.YtfapmghhmkekaaaDoor
