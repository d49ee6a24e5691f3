/- the reference's Center -/
import Derived.Test.YtnflpnbpigcfhabGreatDoorRMean
namespace Go.Proofs.YtnflpnbpigcfhabGreatDoor
open Go.RowKit Ear

/-- the first k numbers are done, the others are the mean's -/
def mixTo (x M : List Int) (k : Nat) : List Int := (List.range M.length).map fun q => if q < k then x[q]?.getD 0 - M[q]?.getD 0 else M[q]?.getD 0
theorem mixTo_start (x M : List Int) : mixTo x M 0 = M := by
  apply List.ext_getElem (by simp [mixTo])
  intro q h1 h2
  simp [mixTo, List.getElem?_eq_getElem h2]
theorem mixTo_get (x M : List Int) (k : Nat) (hk : k < M.length) : (mixTo x M k)[k]? = some (M[k]?.getD 0) := by
  rw [List.getElem?_eq_getElem (by simpa [mixTo] using hk)]
  simp [mixTo]
theorem mixTo_set (x M : List Int) (k : Nat) : (mixTo x M k).set k (x[k]?.getD 0 - M[k]?.getD 0) = mixTo x M (k + 1) := by
  apply List.ext_getElem (by simp [mixTo])
  intro q h1 h2
  rw [List.getElem_set]
  simp only [mixTo, List.getElem_map, List.getElem_range]
  by_cases h : k = q
  · subst h; rw [if_pos rfl, if_pos (by omega)]
  · rw [if_neg h]
    by_cases h' : q < k
    · rw [if_pos h', if_pos (by omega)]
    · rw [if_neg h', if_neg (by omega)]
theorem mixTo_all (x M : List Int) (h : x.length = M.length) : mixTo x M M.length = cmb (· - ·) x M := by
  apply List.ext_getElem (by simp [mixTo, cmb, h])
  intro q h1 h2
  simp only [mixTo, List.length_map, List.length_range] at h1
  simp only [mixTo, cmb, List.getElem_map, List.getElem_range]
  rw [if_pos h1]

set_option maxRecDepth 100000 in
set_option maxHeartbeats 4000000 in
theorem rCenter_any (A : Option Addr) (c : Nat) (L : List Inn) (w : World) (hA : LL w A L) (hv : Hid (vecR (vsOf L) = 0)) :
    Calls Tryz.prog 42 #[.slice A L.length c] w (RetLL (cenL (vsOf L)) w) := by
  obtain ⟨i0, hi0, hz0, hz1, hz2⟩ := info_parts info_ints
  have TI := Lib.hid hi0; have TZ0 := Lib.hid hz0; have TZ1 := Lib.hid hz1; have TZ2 := Lib.hid hz2
  clear hi0 hz0 hz1 hz2
  have HVL : Hid ((vsOf L).length = L.length) := Lib.hid (by simp)
  have hok := (vecR_ok.1 hv.out).1
  have HV := Lib.hid (vecR_ok.1 hv.out).2
  rw [HVL.out] at hok
  go_enter Tryz.func42, Tryz.ntmps42
  go_wp2_with fail
  go_loopw [3, 4, 5, 6] (fun t3 i _ _ wr => ∃ t : Nat, t ≤ L.length ∧ i = .int .i64 t ∧ ∃ A' c' O, t3 = .slice A' t c' ∧ LLo wr w.heap.size A' c' O ∧ Hid (O.length = t) ∧ Hid (vsOf O = (List.range t).map (cenAt (vsOf L))) ∧ Below w.heap.size w wr) (fun _ i _ _ _ => L.length - (intOf i).toNat)
  case atStart => exact ⟨0, by omega, rfl, none, 0, [], rfl, LLo.nil _ _, Lib.hid rfl, Lib.hid rfl, Below.refl _ _⟩
  case round =>
    obtain ⟨t, ht, rfl, A', c', O, rfl, r1, r2, r3, r4⟩ := hrel
    by_cases hlt : t < L.length
    · obtain ⟨W0, rfl⟩ : ∃ x, x = wr := ⟨_, rfl⟩
      have hD : Hid (cenAt (vsOf L) t = cmb (· - ·) L[t].2.2 (meanL (vsOf L))) := Lib.hid (by unfold cenAt; rw [vsOf_get hlt])
      have g2 := vecOk_mem HV.out (vs_get hlt)
      have hL := hA.below r4
      obtain ⟨bk, off, rfl, hbk, hc⟩ := hL.lies.lat hlt
      have hx := hL.inn _ (List.getElem_mem hlt)
      have VC := Lib.hid (vec_vcs HV.out)
      have HM1 := Lib.hid (meanL_ok (vs := vsOf L) (fun e => by have h9 := congrArg List.length e; rw [HVL.out, List.length_nil] at h9; omega) (fun x hx => (vecOk_mem HV.out hx).2.2.2))
      have hm2 := meanL_length (vsOf L)
      generalize L[t] = X at *
      obtain ⟨XA, Xc, xl⟩ := X
      simp only at *
      obtain ⟨n, hn⟩ : ∃ n, n = len0 (vsOf L) := ⟨_, rfl⟩
      rw [← hn] at VC hm2 g2
      have HN := Lib.hid hn
      have HM2 := Lib.hid hm2
      have n64 : n ≤ 64 := by have := g2.1; have := g2.2.2.1; omega
      have npos : 1 ≤ n := by have := g2.1; have := g2.2.1; omega
      have G1 := Lib.hid g2.1
      have G2 := Lib.hid g2.2.2.2
      have HX := Lib.hid hx
      have HL := Lib.hid hL
      have R4 := Lib.hid r4
      have R1 := Lib.hid r1
      clear g2 hx hL r1 r4 hn hm2
      go_wp2_with fail
      refine (rmean_any (some ⟨bk, off, none⟩) c n L W0 HL.out VC (by omega) hok (by omega)).mono ?_
      rintro e w1 ⟨A1, c1, rfl, ho1, hb1⟩
      rw [HM2.out] at ho1
      rw [HM2.out]
      obtain ⟨g, rfl, hg0⟩ : ∃ g, A1 = some ⟨g, 0, none⟩ ∧ W0.heap.size ≤ g := by
        rcases ho1.2 with ⟨_, e⟩ | ⟨g, cap, cur, e, hg, _⟩
        · omega
        · injection e with e1 e2 e3; exact ⟨g, e1, hg⟩
      have HO1 := Lib.hid ho1
      have HB1 := Lib.hid hb1
      clear ho1 hb1
      go_wp2_with fail
      go_loopw [6] (fun i wr => ∃ k : Nat, k ≤ n ∧ i = .int .i64 k ∧ wr.ownsRow W0.heap.size 3 1 (.slice (some ⟨g, 0, none⟩) n c1) n (ics (mixTo xl (meanL (vsOf L)) k)) ∧ Below W0.heap.size W0 wr) (fun i _ => n - (intOf i).toNat)
      case atStart => exact ⟨0, by omega, rfl, by rw [mixTo_start]; exact HO1.out, HB1.out⟩
      case round =>
        obtain ⟨k, hk, rfl, s1, s2⟩ := hrel
        by_cases hlk : k < n
        · have hc' : wr.cell? ⟨bk, off + t, none⟩ = some (.slice XA xl.length Xc) := (s2.cell (p := ⟨bk, off + t, none⟩) hbk).trans hc
          have hbk' : bk < wr.heap.size := Nat.lt_of_lt_of_le hbk s2.size
          have hkx : k < xl.length := by rw [G1.out]; exact hlk
          obtain ⟨bx, ox, rfl, hbx, hcx⟩ := (HX.out.below s2).1.at_ hkx
          have b1 := getD_bd G2.out (by omega) (by omega) k
          have b2 := getD_bd HM1.out (by omega) (by omega) k
          have q1 : wr.cell? ⟨g, k, none⟩ = some (.int .i64 ((meanL (vsOf L))[k]?.getD 0)) := by
            rw [s1.cellAt k (by omega)]; simp only [List.getElem?_map, mixTo_get _ _ k (by rw [HM2.out]; exact hlk)]; rfl
          have q2 : wr.frozen? ⟨g, k, none⟩ = false := s1.frozenAt k
          have hst := s1.stored k (.int .i64 (xl[k]?.getD 0 - (meanL (vsOf L))[k]?.getD 0))
          have hset : (ics (mixTo xl (meanL (vsOf L)) k)).set k (.int .i64 (xl[k]?.getD 0 - (meanL (vsOf L))[k]?.getD 0)) = ics (mixTo xl (meanL (vsOf L)) (k + 1)) := by
            rw [← List.map_set, mixTo_set]
          rw [hset] at hst
          have HST := Lib.hid hst.1
          have S2 := Lib.hid s2
          clear hst hset s1 s2 hc
          generalize xl[k]?.getD 0 = x at *
          generalize (meanL (vsOf L))[k]?.getD 0 = y at *
          have p1 : IntKind.i64.wrap (x - y) = x - y := IntWalk.i64_in _ (by omega)
          go_wp2_with fail
          go_still_tail 15, (by kernel_rfl)
          repeat still_step
          go_wp2_with fail
          exact ⟨⟨k + 1, by omega, by go_num, HST.out.drew, (S2.out.setCell hg0 _).drew⟩, by simp [intOf]; omega⟩
        · obtain rfl : k = n := by omega
          have hcm : Hid (mixTo xl (meanL (vsOf L)) k = cenAt (vsOf L) t) := Lib.hid (by
            have := mixTo_all xl (meanL (vsOf L)) (by rw [HM2.out, G1.out])
            rw [HM2.out] at this
            rw [hD.out, ← this])
          have hlen : Hid ((cenAt (vsOf L) t).length = k) := Lib.hid (by rw [hD.out, cmb_length, G1.out])
          have HC : Hid (allR (-2097152) 2097152 (cenAt (vsOf L) t) = true) := Lib.hid (by rw [hD.out]; exact cmb_big G2.out HM1.out)
          rw [hcm.out] at s1
          have S1 := Lib.hid s1
          have S2 := Lib.hid s2
          clear s1 s2
          have hs0 : w.heap.size ≤ W0.heap.size := R4.out.size
          have hs1 : W0.heap.size ≤ wr.heap.size := S2.out.size
          have OW3 := Lib.hid (R1.out.below S2.out)
          go_wp2_with (at_builtin; refine wpList_append_srcG _ rfl (.tmp 36) (.tmp 38) _ rfl w.heap.size 22 i0 _ 1 24 Tryz.underlying29 TI.out TZ0.out TZ1.out TZ2.out rfl (by omega) (.slice A' t c') t (lcs O) rfl (by have := OW3.out.row.alloc (.cells #[Value.slice (some ⟨g, 0, none⟩) k c1] 22); rw [r2.out] at this; exact this) (some ⟨wr.heap.size, 0, none⟩) 1 1 [Value.slice (some ⟨g, 0, none⟩) k c1] rfl (fun e => by cases e) (lies_new _ _ _) (by simp) (by simp [Value.oneCell']) (by unfold maxLen; omega) (by omega) (by simp; omega) (t + 1) rfl ?_; intro A4 c4 w4 ho4 hg4 _)
          have hit : InT (wr.alloc (.cells #[Value.slice (some ⟨g, 0, none⟩) k c1] 22)) (some ⟨g, 0, none⟩, c1, cenAt (vsOf L) t) := by
            refine InT.of_own (n := k) (base := W0.heap.size) (S1.out.alloc _) hlen.out.symm (by omega) ?_
            intro y hy
            have := allR_mem HC.out hy; omega
          have hll : LLo (wr.alloc (.cells #[Value.slice (some ⟨g, 0, none⟩) k c1] 22)) w.heap.size A' c' O := OW3.out.below ((Below.refl _ _).alloc (Nat.le_refl _) _)
          have hsn := hll.snoc (n := t) (x := (some ⟨g, 0, none⟩, c1, cenAt (vsOf L) t)) (w' := w4) (A' := A4) (c' := c4) (base' := w.heap.size) hit hg4 (by
            simp only [hlen.out]
            rw [r2.out]
            exact ho4)
          have hbel : Below w.heap.size w w4 := ((R4.out.trans (S2.out.mono hs0)).alloc (by omega) _).grown hg4 (by simp; omega) (fun k hk => (OW3.out.row.lt k (by rw [← hk]; cases A' <;> rfl)).1)
          exact ⟨⟨t + 1, by omega, by go_num, A4, c4, _, rfl, hsn, Lib.hid (by rw [List.length_append, r2.out]; rfl), Lib.hid (by
            have h5 := r3.out
            rw [vsOf] at h5
            rw [vsOf, List.map_append, h5, List.range_succ, List.map_append]; rfl), hbel⟩, by simp [intOf]; omega⟩
    · obtain rfl : t = L.length := by omega
      have E : Hid (vsOf O = cenL (vsOf L)) := Lib.hid (by rw [r3.out, ← cenL_range, HVL.out])
      go_wp2_with fail
      go_ret
      exact ⟨_, _, O, by rw [r2.out]; rfl, E, r1, r4⟩
end Go.Proofs.YtnflpnbpigcfhabGreatDoor
