/- a part of TalkSettles -/
import Derived.Test.YtcjicjfbippmnaaGreatMTSett8
set_option maxRecDepth 100000
set_option maxHeartbeats 32000000
namespace Go.Proofs.YtcjicjfbippmnaaGreat
open Go.RowKit Ear

theorem xdiv_long (A B : Option Addr) (c d x y : Nat) (w : World) (hA : Dg w A c (nd x)) (hB : Dg w B d (nd y)) (hx : (nd x).length <= 400000) (hxy : y <= x) (y0 : y ≠ 0) (y1 : (nd y).length ≠ 1) :
    Calls Tryz.prog 170 #[.slice A (nd x).length c, .slice B (nd y).length d] w (RetDiv (x / y) (x % y) w) := by
  obtain ⟨r, hr, hr0⟩ : ∃ r, cmpN x y = r /\ ¬ r < 0 := by
    rcases Nat.lt_or_ge y x with h | h
    · exact ⟨1, cmpN_gt h, by decide⟩
    · exact ⟨0, cmpN_eq (by omega), by decide⟩
  have H0 := zH (xcmp_any A B c d x y w hA hB (by omega) r (zH hr))
  have ly := nd_len_mono hxy
  have ly0 : (nd y).length ≠ 0 := fun e => y0 (nd_len_zero.1 e)
  obtain ⟨tp1, tp2, tp3⟩ := nd_top y0
  have q1 : (((nd y).length : Int) == 1) = false := beq_eq_false_iff_ne.2 (by omega)
  obtain ⟨bk, off, rfl, hbk, hc⟩ := hB.lies.uat (k := (nd y).length - 1) (by omega)
  rw [tp1] at hc
  have i0 : (((nd y).length : Int) - 1).toNat = (nd y).length - 1 := by omega
  have H1 := zH (fun W => leadz_any ((y / 4294967296 ^ ((nd y).length - 1) : Nat) : Int) W (by omega) (by omega))
  have DA := zH hA
  have DB := zH hB
  clear hr hA hB tp1
  generalize ht : y / 4294967296 ^ ((nd y).length - 1) = ty at *
  clear ht
  go_enter Tryz.func170, Tryz.ntmps170
  go_wp2_with fail
  go_step3
  go_wp2_with fail
  refine H0.out.mono ?_
  rintro e w' ⟨rfl, n0, rfl⟩
  clear H0
  go_wp2_with fail
  refine (H1.out _).mono ?_
  rintro e w' ⟨i, hi, rfl, rfl⟩
  clear H1
  have W0 : Hid (Below w.heap.size w (w.drewN n0)) := zH (below_drewN' _ _)
  have H2 := zH (xshift_any A c (nd x) i (w.drewN n0) (DA.out.below W0.out) (by omega) hi x (zH (vl_nd x)))
  have DB1 := zH (DB.out.below W0.out)
  clear DA DB hc
  generalize w.drewN n0 = w1 at *
  go_wp2_with fail
  refine H2.out.mono ?_
  clear H2
  rintro e w2 ⟨UA, Uc, rfl, u1, u2, u3, u4⟩
  have H3 := zH (xshift_any (some ⟨bk, off, none⟩) d (nd y) i w2 (DB1.out.below u4) (by omega) hi y (zH (vl_nd y)))
  have DU := zH (dg_ret u1 u2 u3)
  have W2 := zH (W0.out.trans (u4.mono W0.out.size))
  clear u1 u2 u3 u4 DB1 W0
  go_wp2_with fail
  refine H3.out.mono ?_
  clear H3
  rintro e w3 ⟨VA, Vc, rfl, v1, v2, v3, v4⟩
  have DV := zH (dg_ret v1 v2 v3)
  have DU3 := zH (DU.out.below v4)
  have W3 := zH (W2.out.trans (v4.mono W2.out.size))
  have HP : 0 < 2 ^ i := Nat.pow_pos (by decide)
  have v0 : y * 2 ^ i ≠ 0 := Nat.mul_ne_zero y0 (by omega)
  have uv : y * 2 ^ i <= x * 2 ^ i := Nat.mul_le_mul_right _ hxy
  have HQ : Hid (x / y = x * 2 ^ i / (y * 2 ^ i)) := zH (Nat.mul_div_mul_right x y HP).symm
  have HR : Hid (x % y = x * 2 ^ i % (y * 2 ^ i) / 2 ^ i) := zH (by rw [Nat.mul_mod_mul_right, Nat.mul_div_cancel _ HP])
  have hul : (nd (x * 2 ^ i)).length <= (nd x).length + 1 := by
    have h1 := nd_len_mul x (2 ^ i)
    have h2 : (nd (2 ^ i)).length <= 1 := nd_len_le (by have := Nat.pow_le_pow_right (show 0 < 2 by decide) hi; omega)
    omega
  have hlen := nd_len_mono uv
  clear v1 v2 v3 v4 DU W2 HP hxy uv
  generalize hu : x * 2 ^ i = u at *
  generalize hv : y * 2 ^ i = v at *
  clear hu hv
  obtain ⟨tv1, tv2, tv3⟩ := nd_top v0
  have lv0 : (nd v).length ≠ 0 := fun e => v0 (nd_len_zero.1 e)
  obtain ⟨m, hm⟩ : ∃ m : Nat, m + (nd v).length = (nd u).length + 1 := ⟨(nd u).length + 1 - (nd v).length, by omega⟩
  have em : ((nd u).length : Int) - ((nd v).length : Int) + 1 = (m : Int) := by omega
  obtain ⟨w4, hmk, ho4, hb4⟩ := make_u32 w3 m (by omega) w.heap.size W3.out.size
  obtain ⟨g, hg⟩ : ∃ g, g = w3.heap.size := ⟨_, rfl⟩
  rw [<- hg] at ho4 hmk
  have HG : Hid (w.heap.size <= g) := by have := W3.out.size; show _ <= _; omega
  have HVn := zH (nd_lt v)
  have HVg := zH (nd_ge v0)
  have HST := zH (DivAt.start (u := u) (v := v) (m := m) (by
    have h1 := nd_lt u
    have h2 := HVg.out
    have h3 := Nat.mul_le_mul_right (4294967296 ^ m) h2
    rw [<- Nat.pow_add, show (nd v).length - 1 + m = (nd u).length by omega] at h3
    omega))
  have HGE := zH hg
  have B4 := zH (hg ▸ hb4 : Below g w3 w4)
  have hs4 : g + 1 <= w4.heap.size := by
    obtain ⟨_, h2⟩ := ho4
    rcases h2 with ⟨h3, _⟩ | ⟨g', cap, cur, h3, _, h4, _⟩
    · cases h3
    · cases h3
      exact (aE h4).1
  have H4 := zH (CloneX_any UA Uc (nd u) w4 (DU3.out.below hb4) (by omega))
  generalize hvt : v / 4294967296 ^ ((nd v).length - 1) = vt at *
  have HVT : Hid (vt * 4294967296 ^ ((nd v).length - 1) <= v) := zH (by rw [<- hvt]; exact Nat.div_mul_le_self _ _)
  have HTV := zH tv1
  clear hvt hg hb4 DU3 tv1 ly0 y1 tp2 tp3 q1 i0
  generalize hlv : (nd v).length = lv at *
  have HLV := zH hlv
  clear hlv
  go_wp2_with fail
  refine H4.out.mono ?_
  clear H4 hmk
  rintro e w5 ⟨RA, Rc, rfl, ro, rb⟩
  have DR := zH (ownsRow_le ro hs4)
  have B5 := zH (B4.out.trans (rb.mono (by omega)))
  have hs5 : g + 1 <= w5.heap.size := Nat.le_trans hs4 rb.size
  have Q5 := zH (own_below ho4 rb)
  have hlu : m + lv <= 400002 := by omega
  clear ro rb ho4 B4
  go_wp2_with fail
  go_step3
  go_wp2_with fail
  go_loopw [13, 14, 15, 16, 17] (fun r13 j14 _ _ _ wr => ∃ k : Nat, k <= m /\ j14 = .int .i64 ((k : Int) - 1) /\ ∃ q rest RA Rc, Hid (DivAt u v q m k rest) /\ r13 = .slice RA (nd rest).length Rc /\ Hid (wr.ownsRow (g + 1) 173 1 (.slice RA (nd rest).length Rc) (nd rest).length (ucs (nd rest))) /\ Hid (wr.ownsRow w.heap.size 173 1 (.slice (some ⟨g, 0, none⟩) m m) m (ucs q)) /\ Hid (Below g w3 wr)) (fun _ j14 _ _ _ _ => (intOf j14 + 1).toNat)
  case atStart => exact ⟨m, Nat.le_refl _, rfl, _, _, _, _, HST, rfl, DR, Q5, B5⟩
  case round =>
    obtain ⟨k, hk, rfl, q, rest, RA1, Rc1, HD, rfl, HRO, HQO, HB⟩ := hrel
    clear HST DR Q5 B5 hs5
    have hsr : g + 1 <= wr.heap.size := by
      obtain ⟨_, h2⟩ := HQO.out
      rcases h2 with ⟨h3, _⟩ | ⟨g', cap, cur, h3, _, h4, _⟩
      · cases h3
      · cases h3
        exact (aE h4).1
    have HBW : Hid (Below w.heap.size w wr) := zH (W3.out.trans (HB.out.mono HG.out))
    have hul2 : (nd u).length <= 400001 := by omega
    have hrest : rest <= u := by have := HD.out.val; have h1 := Int.mul_nonneg (vl_nonneg HD.out.dig) (show (0 : Int) <= v by omega); omega
    have hrl : (nd rest).length <= 400001 := Nat.le_trans (nd_len_mono hrest) hul2
    have DRD := zH (own_dg HRO.out (dgs_nd rest))
    by_cases h0 : k = 0
    · subst h0
      obtain ⟨f1, f2⟩ := HD.out.done
      have HT := zH (own_trimo HQO.out HD.out.len HD.out.dig (by omega) (v := u / v) f1)
      have HF := zH (fun W (hW : Below wr.heap.size wr W) => xdown_any RA1 Rc1 (nd rest) i W (DRD.out.below hW) (by omega) hi rest (zH (vl_nd rest)))
      have HE : Hid (rest / 2 ^ i = x % y) := zH (by rw [HR.out, f2])
      clear f1 f2
      go_wp2_with fail
      refine HT.out.mono ?_
      rintro e w' ⟨A2, c2, rfl, t1, t4⟩
      go_wp2_with fail
      refine (HF.out _ t4).mono ?_
      rintro e w6 ⟨A3, c3, rfl, s1, s2, s3, s4⟩
      go_wp2_with fail
      go_ret2
      rw [HQ.out, <- HE.out]
      exact ⟨A2, c2, A3, c3, rfl, (dg_ret (Lies.of_own t1) (own_capn t1).1 (own_capn t1).2).below s4, dg_ret s1 s2 s3, (HBW.out.trans (t4.mono HBW.out.size)).trans (s4.mono ((HBW.out.trans (t4.mono HBW.out.size)).size))⟩
    · obtain ⟨j, rfl⟩ : ∃ j, k = j + 1 := ⟨k - 1, by omega⟩
      have ej : (((j + 1 : Nat) : Int) - 1) = (j : Int) := by omega
      rw [ej]
      have hsm := HD.out.small
      obtain ⟨tt1, tt2⟩ := top_two (n := lv) (by omega) HVn.out hsm
      have HGL := zH (fun G (h : rest / 4294967296 ^ (j + (lv - 1)) < (G + 1) * vt) => guess_lt HVT.out h)
      have b1 : rest / 4294967296 ^ (j + lv) <= 4294967295 := by rw [<- tt1]; omega
      have b2 : rest / 4294967296 ^ (j + (lv - 1)) % 4294967296 <= 4294967295 := by omega
      have C1 := zH (xdigit_any RA1 Rc1 (nd rest) (j + lv) wr DRD.out.lies _ (zH (nd_at _ _)) (by rw [tt1]; omega))
      have C2 := zH (xdigit_any RA1 Rc1 (nd rest) (j + (lv - 1)) wr DRD.out.lies _ (zH (nd_at _ _)) (by omega))
      rw [tt1] at C1
      have ek1 : ((j + lv : Nat) : Int) = (j : Int) + lv := by simp
      have ek2 : ((j + (lv - 1) : Nat) : Int) = (j : Int) + lv - 1 := by omega
      rw [ek1] at C1
      rw [ek2] at C2
      clear ek1 ek2 tt1 ej
      generalize rest / 4294967296 ^ (j + lv) = T1 at *
      generalize rest / 4294967296 ^ (j + (lv - 1)) % 4294967296 = T0 at *
      generalize rest / 4294967296 ^ (j + (lv - 1)) = T at *
      have hT : (T1 : Int) * 4294967296 + T0 = (T : Int) := by omega
      have pw : IntKind.u64.wrap ((T1 : Int) * 4294967296) = (T1 : Int) * 4294967296 := IntWalk.u64_in _ (by omega)
      have po := or_u64_top T1 T0 (by omega) (by omega) (by omega) (by omega)
      rw [hT] at po
      have hv5 : Hid (Dg wr VA Vc (nd v)) := zH (DV.out.below (HGE.out ▸ HB.out))
      obtain ⟨bv, ov, rfl, hbv, hcv⟩ := hv5.out.lies.uat (k := lv - 1) (by rw [HLV.out]; omega)
      rw [HTV.out] at hcv
      have i0 : ((lv : Int) - 1).toNat = lv - 1 := by omega
      have vz : ((vt : Int) == 0) = false := by simp; omega
      have pd0 : 0 <= (T : Int) / vt := Int.ediv_nonneg (by omega) (by omega)
      have pd1 : (T : Int) / vt <= T := Int.ediv_le_self _ (by omega)
      have pd : IntKind.u64.wrap ((T : Int) / vt) = (T : Int) / vt := IntWalk.u64_in _ (by omega)
      obtain ⟨G, hG⟩ : ∃ G : Nat, min ((T : Int) / vt) 4294967295 = (G : Int) := ⟨(min ((T : Int) / vt) 4294967295).toNat, by have : 0 <= (T : Int) / vt := Int.ediv_nonneg (by omega) (by omega); omega⟩
      have hG1 : G <= 4294967295 := by omega
      have HGS : Hid (rest < v * (G + 1) * 4294967296 ^ j) := zH (by
        rcases Nat.lt_or_ge (T / vt) 4294967296 with h | h
        · have hg2 : G = T / vt := by have : (T : Int) / vt = ((T / vt : Nat) : Int) := by simp
                                      omega
          refine HGL.out G ?_
          rw [hg2, Nat.mul_comm]
          exact Nat.lt_mul_div_succ T (by omega)
        · have hg2 : G = 4294967295 := by have : (T : Int) / vt = ((T / vt : Nat) : Int) := by simp
                                          omega
          rw [hg2]
          rw [Nat.pow_succ] at hsm
          rw [Nat.mul_assoc, Nat.mul_comm 4294967296]
          exact hsm)
      have HSM := zH hsm
      have HN := zH (fun t (h1 : v * t * 4294967296 ^ j <= rest) (h2 : rest < v * (t + 1) * 4294967296 ^ j) => HD.out.next (by omega) h1 h2)
      have HZ := zH (fun h2 => divAt_zero HD.out (by omega) h2)
      have hjm : j < m := by omega
      clear tt2 hT HGL b1 b2 hsm pd0 pd1
      go_wp2_with fail
      refine C1.out.mono ?_
      rintro e w' ⟨rfl, rfl⟩
      go_wp2_with fail
      refine C2.out.mono ?_
      rintro e w' ⟨rfl, rfl⟩
      clear C1 C2
      obtain ⟨W0, rfl⟩ : ∃ X, X = wr := ⟨_, rfl⟩
      go_wp2_with fail
      have B0 := zH (Below.refl W0.heap.size W0)
      clear pw po hcv vz hG pd i0
      go_loopw [13, 16, 17] (fun r13 g16 _ wr => ∃ G : Nat, g16 = .int .u64 G /\ G <= 4294967295 /\ Hid (rest < v * (G + 1) * 4294967296 ^ j) /\ r13 = .slice RA1 (nd rest).length Rc1 /\ Hid (Below W0.heap.size W0 wr)) (fun _ g16 _ _ => (intOf g16).toNat)
      case atStart => exact ⟨G, rfl, hG1, HGS, rfl, B0⟩
      case round =>
        obtain ⟨G', rfl, hG1', HGS', rfl, HB0⟩ := hrel
        clear B0 HGS hG1
        have HBW1 := zH (HBW.out.trans (HB0.out.mono HBW.out.size))
        have HB1 := zH (HB.out.trans (HB0.out.mono (by omega)))
        have HRO1 := zH (own_below HRO.out HB0.out)
        have HQO1 := zH (own_below HQO.out HB0.out)
        by_cases hg0 : G' = 0
        · subst hg0
          have HD1 := zH (HZ.out HGS'.out)
          go_wp2_with fail
          exact ⟨⟨j, by omega, rfl, _, _, _, _, HD1, rfl, HRO1, HQO1, HB1⟩, by simp [intOf]⟩
        · have HV1 := zH (hv5.out.below HB0.out)
          have S1 := zH (xsmall_any G' wr (by omega))
          have gl : (nd G').length <= 1 := nd_len_le (by omega)
          have hgp : (0 : Int) < (G' : Int) := by omega
          have hg32 : (G' : Int) % 4294967296 = (G' : Int) := by omega
          go_wp2_with fail
          refine S1.out.mono ?_
          clear S1
          rintro e w6 ⟨SA, Sc, rfl, s1, s2, s3, s4⟩
          have S2 := zH (xmul_any (some ⟨bv, ov, none⟩) SA Vc Sc (nd v) (nd G') w6 (HV1.out.below s4) (dg_ret s1 s2 s3) (by rw [HLV.out]; omega) (by omega) (v * G') (zH (by rw [vl_nd, vl_nd]; simp)))
          rw [HLV.out] at S2
          have B6 := zH (HB0.out.trans (s4.mono HB0.out.size))
          clear s1 s2 s3 s4
          go_wp2_with fail
          refine S2.out.mono ?_
          clear S2
          rintro e w7 ⟨MA, Mc, rfl, m1, m2, m3, m4⟩
          have ml : (nd (v * G')).length <= lv + 1 := by have := nd_len_mul v G'; have := HLV.out; omega
          have S3 := zH (xshifted_any MA Mc (v * G') j w7 (dg_ret m1 m2 m3) (by omega) (by omega))
          have B7 := zH (B6.out.trans (m4.mono B6.out.size))
          clear m1 m2 m3 m4
          go_wp2_with fail
          refine S3.out.mono ?_
          clear S3
          rintro e w8 ⟨PA, Pc, rfl, p1, p2, p3, p4⟩
          have pl : (nd (v * G' * 4294967296 ^ j)).length <= 900000 := by have := nd_len_shift (v * G') j; omega
          have B8 := zH (B7.out.trans (p4.mono B7.out.size))
          have DP := zH (dg_ret p1 p2 p3)
          have DR8 := zH (DRD.out.below B8.out)
          clear p1 p2 p3 p4 B6 B7 ml
          generalize hpt : v * G' * 4294967296 ^ j = pt at *
          have HPT := zH hpt
          clear hpt
          rcases Nat.lt_or_ge rest pt with hc | hc
          · have S4 := zH (xcmp_any PA RA1 Pc Rc1 pt rest w8 DP.out DR8.out (by omega) 1 (zH (cmpN_gt hc)))
            have HG2 : Hid (rest < v * (G' - 1 + 1) * 4294967296 ^ j) := zH (by rw [show G' - 1 + 1 = G' by omega, HPT.out]; exact hc)
            go_wp2_with fail
            refine S4.out.mono ?_
            rintro e w9 ⟨rfl, n9, rfl⟩
            have B9 : Hid (Below W0.heap.size W0 (w8.drewN n9)) := zH (B8.out.trans (below_drewN' _ _))
            clear S4
            generalize w8.drewN n9 = w9 at *
            go_wp2_with fail
            exact ⟨⟨G' - 1, by go_num, by omega, HG2, rfl, B9⟩, by simp [intOf]; omega⟩
          · obtain ⟨r2, hr2, hr20⟩ : ∃ r2, cmpN pt rest = r2 /\ ¬ 0 < r2 := by
              rcases Nat.lt_or_ge pt rest with h | h
              · exact ⟨-1, cmpN_lt h, by decide⟩
              · exact ⟨0, cmpN_eq (by omega), by decide⟩
            have S4 := zH (xcmp_any PA RA1 Pc Rc1 pt rest w8 DP.out DR8.out (by omega) r2 (zH hr2))
            clear hr2
            obtain ⟨hn1, HDN⟩ := HN.out G' (by rw [HPT.out]; exact hc) HGS'.out
            rw [HPT.out] at HDN
            have HDH := zH HDN
            clear hn1 HDN
            go_wp2_with fail
            refine S4.out.mono ?_
            rintro e w9 ⟨rfl, n9, rfl⟩
            have B9 : Hid (Below W0.heap.size W0 (w8.drewN n9)) := zH (B8.out.trans (below_drewN' _ _))
            have DP9 : Hid (Dg (w8.drewN n9) PA Pc (nd pt)) := zH (DP.out.below (below_drewN' _ _))
            have DR9 : Hid (Dg (w8.drewN n9) RA1 Rc1 (nd rest)) := zH (DR8.out.below (below_drewN' _ _))
            clear S4 DP DR8 B8
            generalize w8.drewN n9 = w9 at *
            have S5 := zH (xsub_own RA1 PA Rc1 Pc (nd rest) (nd pt) w9 DR9.out DP9.out (nd_len_mono hc) (by omega) (rest - pt) (zH (by rw [vl_nd, vl_nd]; omega)))
            go_wp2_with fail
            refine S5.out.mono ?_
            rintro e wx ⟨XA, Xc, rfl, x1, x2⟩
            have BX := zH (B9.out.trans (x2.mono B9.out.size))
            have HX1 := zH (ownsRow_le x1 (Nat.le_trans hsr B9.out.size))
            have HQX := zH (own_below HQO.out BX.out)
            have HBX := zH (HB.out.trans (BX.out.mono (by omega)))
            obtain ⟨q1, q2⟩ := own_cellU HQX.out HD.out.len hjm
            clear x1 x2 S5
            go_wp2_with fail
            exact ⟨⟨j, by omega, rfl, _, _, _, _, HDH, rfl, zH (ownsRow_far HX1.out (by simp) _), zH (own_setU HQX.out j _), zH (HBX.out.setCell (by simp) _)⟩, by simp [intOf]⟩
theorem xdiv_any (A B:Option Addr) (c d x y:Nat) (w:World) (hA:Dg w A c (nd x)) (hB:Dg w B d (nd y)) (hx:(nd x).length <= 400000) (y0:y ≠ 0) :
  Calls Tryz.prog 170 #[.slice A (nd x).length c,.slice B (nd y).length d] w (RetDiv (x / y) (x % y) w):=by
 rcases Nat.lt_or_ge x y with h | h
 ·exact xdiv_lt A B c d x y w hA hB hx h
 ·by_cases h1:(nd y).length = 1
  ·have h2:=nd_lt y
   rw [h1] at h2
   exact xdiv_one A B c d x y w hA hB hx h y0 (by omega)
  ·exact xdiv_long A B c d x y w hA hB hx h y0 h1
theorem xgcd_any (A B:Option Addr) (c d x y:Nat) (w:World) (hA:Dg w A c (nd x)) (hB:Dg w B d (nd y)) (hx:(nd x).length <= 400000) (hy:(nd y).length <= 400000) :
  Calls Tryz.prog 169 #[.slice A (nd x).length c,.slice B (nd y).length d] w (RetNd (x.gcd y) w):=by
 have HA:=zH hA
 have HB:=zH hB
 have HG:Hid (x.gcd y = x.gcd y):=zH rfl
 have H0:=zH (Below.refl w.heap.size w)
 clear hA hB
 generalize hg:x.gcd y = g at *
 have HG2:=zH hg
 clear hg HG
 go_enter Tryz.func169,Tryz.ntmps169
 go_wp2_with fail
 go_loopg [0,1,5,6] y (fun k a b _ _ wr=>∃ p A c B d,a = .slice A (nd p).length c /\ b = .slice B (nd k).length d /\ Hid (Dg wr A c (nd p)) /\ Hid (Dg wr B d (nd k)) /\ (nd p).length <= 400000 /\ (nd k).length <= 400000 /\ Hid (p.gcd k = g) /\ Hid (Below w.heap.size w wr))
 case atStart=>exact ⟨x,A,c,B,d,rfl,rfl,HA,HB,hx,hy,HG2,H0⟩
 case round=>
  obtain ⟨p,PA,pc,QA,qc,rfl,rfl,HP,HQ,lp,lq,HGG,HBW⟩:=hrel
  by_cases h0:gk = 0
  ·subst h0
   have hl:((nd 0).length:Nat) = 0:=by rw [nd_zero];rfl
   have HE:Hid (p = g):=zH (by have:=HGG.out;rwa [Nat.gcd_zero_right] at this)
   rw [hl]
   clear hl
   go_wp2_with fail
   go_ret
   rw [<- HE.out]
   exact ⟨PA,pc,rfl,HP.out.lies,HP.out.cap,HP.out.nil,HBW.out⟩
  ·have hl:(nd gk).length ≠ 0:=fun e=>h0 (nd_len_zero.1 e)
   have hl2:(0:Int) < ((nd gk).length:Int):=by omega
   have C:=zH (xdiv_any PA QA pc qc p gk wr HP.out HQ.out lp h0)
   have hm:p % gk < gk:=Nat.mod_lt _ (by omega)
   have lm:(nd (p % gk)).length <= 400000:=Nat.le_trans (nd_len_mono (Nat.le_of_lt hm)) lq
   have HE:Hid (gk.gcd (p % gk) = g):=zH (by rw [<- HGG.out,Nat.gcd_comm,<- Nat.gcd_rec,Nat.gcd_comm])
   generalize p % gk = r at *
   generalize p / gk = q at *
   clear hl
   go_wp2_with fail
   refine C.out.mono ?_
   rintro e w' ⟨A1,c1,A2,c2,rfl,d1,d2,hb⟩
   have HQ2:=zH (HQ.out.below hb)
   have HD2:=zH d2
   have HB2:=zH (HBW.out.trans (hb.mono HBW.out.size))
   clear d1 d2 hb
   go_wp2_with fail
   go_roundg r
   case measure=>exact hm
   case rel=>exact ⟨gk,QA,qc,A2,c2,rfl,rfl,HQ2,HD2,lq,lm,HE,HB2⟩
end Go.Proofs.YtcjicjfbippmnaaGreat
