/- the reference's Differences -/
import Derived.Test.YtnflpnbpigcfhabGreatDoorCen
namespace Go.Proofs.YtnflpnbpigcfhabGreatDoor
open Go.RowKit Ear

theorem cmb_range (f : Int → Int → Int) (a b : List Int) : (List.range a.length).map (fun q => f (a[q]?.getD 0) (b[q]?.getD 0)) = cmb f a b := rfl
set_option maxRecDepth 100000 in
set_option maxHeartbeats 4000000 in
theorem rDifferences_any (A : Option Addr) (c : Nat) (L : List Inn) (w : World) (hA : LL w A L) (hv : Hid (vecR (vsOf L) = 0)) :
    Calls Tryz.prog 41 #[.slice A L.length c] w (RetLL (difL (vsOf L)) w) := by
  obtain ⟨i0, hi0, hz0, hz1, hz2⟩ := info_parts info_ints
  have TI := Lib.hid hi0; have TZ0 := Lib.hid hz0; have TZ1 := Lib.hid hz1; have TZ2 := Lib.hid hz2
  clear hi0 hz0 hz1 hz2
  obtain ⟨j0, hj0, ky0, ky1, ky2⟩ := info_parts int_info
  have KI := Lib.hid hj0; have KZ0 := Lib.hid ky0; have KZ1 := Lib.hid ky1; have KZ2 := Lib.hid ky2
  clear hj0 ky0 ky1 ky2
  have HVL : Hid ((vsOf L).length = L.length) := Lib.hid (by simp)
  have hok := (vecR_ok.1 hv.out).1
  have HV := Lib.hid (vecR_ok.1 hv.out).2
  rw [HVL.out] at hok
  go_enter Tryz.func41, Tryz.ntmps41
  go_wp2_with fail
  go_loopw [3, 4, 5, 6, 7, 8] (fun t3 i _ _ _ _ wr => ∃ t : Nat, t ≤ L.length ∧ i = .int .i64 t ∧ ∃ A' c' O, t3 = .slice A' t c' ∧ LLo wr w.heap.size A' c' O ∧ Hid (O.length = t) ∧ Hid (vsOf O = (List.range t).map (difAt (vsOf L))) ∧ Below w.heap.size w wr) (fun _ i _ _ _ _ _ => L.length - (intOf i).toNat)
  case atStart => exact ⟨0, by omega, rfl, none, 0, [], rfl, LLo.nil _ _, Lib.hid rfl, Lib.hid rfl, Below.refl _ _⟩
  case round =>
    obtain ⟨t, ht, rfl, A', c', O, rfl, r1, r2, r3, r4⟩ := hrel
    by_cases hlt : t < L.length
    · obtain ⟨W0, rfl⟩ : ∃ x, x = wr := ⟨_, rfl⟩
      obtain ⟨m1, hm1⟩ : ∃ m1 : Nat, m1 = min (t + 1) (L.length - 1) := ⟨_, rfl⟩
      obtain ⟨m0, hm0⟩ : ∃ m0 : Nat, m0 = t - 1 := ⟨_, rfl⟩
      have l1 : m1 < L.length := by omega
      have l0 : m0 < L.length := by omega
      have e1 : min ((t : Int) + 1) ((L.length : Int) - 1) = (m1 : Int) := by omega
      have e0 : max ((t : Int) - 1) 0 = (m0 : Int) := by omega
      have hD : Hid (difAt (vsOf L) t = L[t].2.2 ++ cmb (· - ·) L[m1].2.2 L[m0].2.2) := Lib.hid (by
        unfold difAt
        rw [HVL.out, ← hm1, ← hm0, vsOf_get hlt, vsOf_get l1, vsOf_get l0])
      have g0 := vecOk_mem HV.out (vs_get l0)
      have g1 := vecOk_mem HV.out (vs_get l1)
      have g2 := vecOk_mem HV.out (vs_get hlt)
      clear hm1 hm0
      have hL := hA.below r4
      obtain ⟨bk, off, rfl, hbk, hc⟩ := hL.lies.lat hlt
      obtain ⟨b1, o1, eA, hb1, hc1⟩ := hL.lies.lat l1
      cases eA
      obtain ⟨b2, o2, eA, hb2, hc2⟩ := hL.lies.lat l0
      cases eA
      have hx := hL.inn _ (List.getElem_mem hlt)
      have hx1 := hL.inn _ (List.getElem_mem l1)
      have hx0 := hL.inn _ (List.getElem_mem l0)
      generalize L[t] = X at *
      generalize L[m1] = X1 at *
      generalize L[m0] = X0 at *
      obtain ⟨XA, Xc, xl⟩ := X
      obtain ⟨YA, Yc, yl⟩ := X1
      obtain ⟨ZA, Zc, zl⟩ := X0
      simp only at *
      have EL1 : Hid (yl.length = xl.length) := Lib.hid (by rw [g1.1, g2.1])
      have EL0 : Hid (zl.length = xl.length) := Lib.hid (by rw [g0.1, g2.1])
      have hx64 := g2.2.2.1
      have G0 := Lib.hid g0.2.2.2
      have G1 := Lib.hid g1.2.2.2
      have G2 := Lib.hid g2.2.2.2
      have HX := Lib.hid hx
      have HX1 := Lib.hid hx1
      have HX0 := Lib.hid hx0
      have E1 := Lib.hid e1
      have E0 := Lib.hid e0
      have R4 := Lib.hid r4
      have R1 := Lib.hid r1
      clear g0 g1 g2 hx hx1 hx0 hL e1 e0 r1 r4
      go_wp2_with (at_builtin; refine wpList_append_srcG _ rfl (.const (.slice none 0 0)) (.tmp 18) _ rfl W0.heap.size 3 j0 _ 1 8 Tryz.underlying22 KI.out KZ0.out KZ1.out KZ2.out rfl (by omega) (.slice none 0 0) 0 [] rfl (World.ownsRow_nil _ _ _ _) XA xl.length Xc (ics xl) rfl (fun e => (HX.out.2.1 e).1) HX.out.1 (by simp) (ics_one _) (by unfold maxLen; omega) (by omega) (Nat.le_refl _) xl.length (by simp) ?_; intro Ax cx w1 ho1 hg1 _; have hc' : w1.cell? ⟨bk, off + t, none⟩ = some (.slice XA xl.length Xc) := ((below_none hg1).cell (p := ⟨bk, off + t, none⟩) hbk).trans hc; have hc1' : w1.cell? ⟨bk, off + m1, none⟩ = some (.slice YA yl.length Yc) := ((below_none hg1).cell (p := ⟨bk, off + m1, none⟩) hbk).trans hc1; have hc2' : w1.cell? ⟨bk, off + m0, none⟩ = some (.slice ZA zl.length Zc) := ((below_none hg1).cell (p := ⟨bk, off + m0, none⟩) hbk).trans hc2)
      have p1 : IntKind.i64.wrap ((t : Int) + 1) = (t : Int) + 1 := IntWalk.i64_in _ (by omega)
      have p2 : IntKind.i64.wrap ((L.length : Int) - 1) = (L.length : Int) - 1 := IntWalk.i64_in _ (by omega)
      have p3 : IntKind.i64.wrap ((t : Int) - 1) = (t : Int) - 1 := IntWalk.i64_in _ (by omega)
      have e1 := E1.out
      have e0 := E0.out
      have hbl1 : bk < w1.heap.size := Nat.lt_of_lt_of_le hbk hg1.size
      go_quiet (fail)
      clear p1 p2 p3 e1 e0 hc1' hc2'
      have hb1w : Below W0.heap.size W0 (w1.drewN nq) := (below_none hg1).trans (below_drewN' _ _)
      have ho1w : (w1.drewN nq).ownsRow W0.heap.size 3 1 (.slice Ax xl.length cx) xl.length (ics xl) := ho1
      clear ho1 hg1 hc'
      generalize w1.drewN nq = w2 at *
      have HB2 := Lib.hid hb1w
      have HO2 := Lib.hid ho1w
      have hbl2 : bk < w2.heap.size := Nat.lt_of_lt_of_le hbk HB2.out.size
      clear hb1w ho1w hbl1
      go_wp2_with fail
      go_loopw [5, 8] (fun t5 i wr => ∃ k : Nat, k ≤ xl.length ∧ i = .int .i64 k ∧ ∃ Ay cy, t5 = .slice Ay (xl.length + k : Nat) cy ∧ wr.ownsRow W0.heap.size 3 1 (.slice Ay (xl.length + k) cy) (xl.length + k) (ics (xl ++ (List.range k).map fun q => yl[q]?.getD 0 - zl[q]?.getD 0)) ∧ Below W0.heap.size W0 wr) (fun _ i _ => xl.length - (intOf i).toNat)
      case atStart => exact ⟨0, by omega, rfl, Ax, cx, rfl, by simpa using HO2.out, HB2.out⟩
      case round =>
        obtain ⟨k, hk, rfl, Ay, cy, rfl, s1, s2⟩ := hrel
        have hc' : wr.cell? ⟨bk, off + t, none⟩ = some (.slice XA xl.length Xc) := (s2.cell (p := ⟨bk, off + t, none⟩) hbk).trans hc
        by_cases hlk : k < xl.length
        · obtain ⟨by_, oy, rfl, hby0, hcy0⟩ := HX1.out.1.at_ (k := k) (by rw [EL1.out]; exact hlk)
          obtain ⟨bz, oz, rfl, hbz0, hcz0⟩ := HX0.out.1.at_ (k := k) (by rw [EL0.out]; exact hlk)
          have hcy := (s2.cell (p := ⟨by_, oy + k, none⟩) hby0).trans hcy0
          have hcz := (s2.cell (p := ⟨bz, oz + k, none⟩) hbz0).trans hcz0
          have hby : by_ < wr.heap.size := Nat.lt_of_lt_of_le hby0 s2.size
          have hbz : bz < wr.heap.size := Nat.lt_of_lt_of_le hbz0 s2.size
          have d1 := getD_bd G1.out (by omega) (by omega) k
          have d0 := getD_bd G0.out (by omega) (by omega) k
          have hnx : Hid ((List.range (k + 1)).map (fun q => yl[q]?.getD 0 - zl[q]?.getD 0) = (List.range k).map (fun q => yl[q]?.getD 0 - zl[q]?.getD 0) ++ [yl[k]?.getD 0 - zl[k]?.getD 0]) := Lib.hid (by rw [List.range_succ, List.map_append]; rfl)
          generalize yl[k]?.getD 0 = y at *
          generalize zl[k]?.getD 0 = z at *
          have p1 : IntKind.i64.wrap (y - z) = y - z := IntWalk.i64_in _ (by omega)
          have sa : wr.drew.cell? ⟨by_, oy + k, none⟩ = some (.int .i64 y) ∧ wr.drew.cell? ⟨bz, oz + k, none⟩ = some (.int .i64 z) := ⟨hcy, hcz⟩
          have s1 : wr.drew.ownsRow W0.heap.size 3 1 (.slice Ay (xl.length + k) cy) (xl.length + k) (ics (xl ++ (List.range k).map fun q => yl[q]?.getD 0 - zl[q]?.getD 0)) := s1
          have s2 : Below W0.heap.size W0 wr.drew := ⟨s2.os, s2.tape, s2.output, s2.size, s2.block⟩
          have S1 := Lib.hid s1
          have S2 := Lib.hid s2
          clear s1 s2
          have hsz : W0.heap.size ≤ wr.drew.heap.size := S2.out.size
          have hby' : by_ < wr.drew.heap.size := hby
          have hbz' : bz < wr.drew.heap.size := hbz
          have hk1 : k < yl.length := by rw [EL1.out]; exact hlk
          have hk0 : k < zl.length := by rw [EL0.out]; exact hlk
          have SA := Lib.hid sa
          have SB : Hid ((wr.drew.alloc (.cells #[Value.int .i64 (y - z)] 3)).cell? ⟨by_, oy + k, none⟩ = some (.int .i64 y) ∧ (wr.drew.alloc (.cells #[Value.int .i64 (y - z)] 3)).cell? ⟨bz, oz + k, none⟩ = some (.int .i64 z)) := Lib.hid ⟨by rw [World.cell?_alloc_lt _ _ _ hby']; exact sa.1, by rw [World.cell?_alloc_lt _ _ _ hbz']; exact sa.2⟩
          have OA := Lib.hid (S1.out.alloc (.cells #[Value.int .i64 (y - z)] 3))
          have BA : Hid (Below W0.heap.size W0 (wr.drew.alloc (.cells #[Value.int .i64 (y - z)] 3))) := Lib.hid (S2.out.alloc hsz _)
          have CY := Lib.hid hcy0
          have CZ := Lib.hid hcz0
          clear sa hcy0 hcz0
          go_upto_region 10 with (fail)
          go_region_held3 (fun w' => w'.cell? ⟨by_, oy + k, none⟩ = some (.int .i64 y) ∧ w'.cell? ⟨bz, oz + k, none⟩ = some (.int .i64 z))
            (first | exact SA.out | exact SB.out | exact SC.out)
            (first | (refine step_append_src _ (by rfl) (.tmp 44) (.tmp 54) _ (by rfl) W0.heap.size 3 j0 _ 1 8 Tryz.underlying22 KI.out KZ0.out KZ1.out KZ2.out rfl (by omega) (.slice Ay (xl.length + k) cy) (xl.length + k) (ics (xl ++ (List.range k).map fun q => yl[q]?.getD 0 - zl[q]?.getD 0)) (by rfl) OA.out (some ⟨wr.drew.heap.size, 0, none⟩) 1 1 [Value.int .i64 (y - z)] (by rfl) (fun e => by cases e) (lies_new _ _ _) (by simp) (by simp [Value.oneCell']) (by unfold maxLen; omega) (by omega) BA.out.size (xl.length + k + 1) rfl ?_; intro Ab cb wb hob hgb hat; have BB := Lib.hid (BA.out.grown hgb BA.out.size (fun k hk => (OA.out.lt k hk).1)); have SC : Hid (wb.cell? ⟨by_, oy + k, none⟩ = some (.int .i64 y) ∧ wb.cell? ⟨bz, oz + k, none⟩ = some (.int .i64 z)) := Lib.hid ⟨(BB.out.cell (p := ⟨by_, oy + k, none⟩) hby0).trans CY.out, (BB.out.cell (p := ⟨bz, oz + k, none⟩) hbz0).trans CZ.out⟩))
          go_wp2_with fail
          exact ⟨⟨k + 1, by omega, by go_num, Ab, cb, by rfl, by rw [hnx.out, ← List.append_assoc, ics_append]; exact hob, BB.out⟩, by simp [intOf]; omega⟩
        · obtain rfl : k = xl.length := by omega
          have hcm : Hid (xl ++ (List.range xl.length).map (fun q => yl[q]?.getD 0 - zl[q]?.getD 0) = difAt (vsOf L) t) := Lib.hid (by
            have := cmb_range (· - ·) yl zl
            rw [EL1.out] at this
            rw [hD.out, ← this])
          have hlen : Hid ((difAt (vsOf L) t).length = xl.length + xl.length) := Lib.hid (by rw [← hcm.out]; simp)
          have s1 : wr.ownsRow W0.heap.size 3 1 (.slice Ay (xl.length + xl.length) cy) (xl.length + xl.length) (ics (difAt (vsOf L) t)) := by rw [← hcm.out]; exact s1
          have S1 := Lib.hid s1
          have S2 := Lib.hid s2
          clear s1 s2
          have hs0 : w.heap.size ≤ W0.heap.size := R4.out.size
          have hs1 : W0.heap.size ≤ wr.heap.size := S2.out.size
          have OW3 := Lib.hid (R1.out.below S2.out)
          go_wp2_with (at_builtin; refine wpList_append_srcG _ rfl (.tmp 56) (.tmp 58) _ rfl w.heap.size 22 i0 _ 1 24 Tryz.underlying29 TI.out TZ0.out TZ1.out TZ2.out rfl (by omega) (.slice A' t c') t (lcs O) rfl (by have := OW3.out.row.alloc (.cells #[Value.slice Ay (xl.length + xl.length) cy] 22); rw [r2.out] at this; exact this) (some ⟨wr.heap.size, 0, none⟩) 1 1 [Value.slice Ay (xl.length + xl.length) cy] rfl (fun e => by cases e) (lies_new _ _ _) (by simp) (by simp [Value.oneCell']) (by unfold maxLen; omega) (by omega) (by simp; omega) (t + 1) rfl ?_; intro A4 c4 w4 ho4 hg4 _)
          have hit : InT (wr.alloc (.cells #[Value.slice Ay (xl.length + xl.length) cy] 22)) (Ay, cy, difAt (vsOf L) t) := by
            refine InT.of_own (n := xl.length + xl.length) (base := W0.heap.size) ?_ hlen.out.symm (by omega) ?_
            · exact S1.out.alloc _
            · intro y hy
              rw [hD.out] at hy
              rcases List.mem_append.1 hy with hy | hy
              · have := allR_mem G2.out hy; omega
              · have := allR_mem (cmb_big G1.out G0.out) hy; omega
          have hll : LLo (wr.alloc (.cells #[Value.slice Ay (xl.length + xl.length) cy] 22)) w.heap.size A' c' O := OW3.out.below ((Below.refl _ _).alloc (Nat.le_refl _) _)
          have hsn := hll.snoc (n := t) (x := (Ay, cy, difAt (vsOf L) t)) (w' := w4) (A' := A4) (c' := c4) (base' := w.heap.size) hit hg4 (by
            simp only [hlen.out]
            rw [r2.out]
            exact ho4)
          have hbel : Below w.heap.size w w4 := ((R4.out.trans (S2.out.mono hs0)).alloc (by omega) _).grown hg4 (by simp; omega) (fun k hk => (OW3.out.row.lt k (by rw [← hk]; cases A' <;> rfl)).1)
          exact ⟨⟨t + 1, by omega, by go_num, A4, c4, _, rfl, hsn, Lib.hid (by rw [List.length_append, r2.out]; rfl), Lib.hid (by
            have h5 := r3.out
            rw [vsOf] at h5
            rw [vsOf, List.map_append, h5, List.range_succ, List.map_append]; rfl), hbel⟩, by simp [intOf]; omega⟩
    · obtain rfl : t = L.length := by omega
      have E : Hid (vsOf O = difL (vsOf L)) := Lib.hid (by rw [r3.out, difL, HVL.out])
      go_wp2_with fail
      go_ret
      exact ⟨_, _, O, by rw [r2.out]; rfl, E, r1, r4⟩
end Go.Proofs.YtnflpnbpigcfhabGreatDoor
