/- the reference's Seeds -/
import Derived.Test.YtfapmghhmkekaaaDoorQSee
import Derived.Test.YtfapmghhmkekaaaDoorQRco
namespace Go.Proofs.YtfapmghhmkekaaaDoor
open Go.RowKit Ear

set_option maxRecDepth 100000 in
set_option maxHeartbeats 4000000 in
theorem rSeeds_nat (A : Option Addr) (c : Nat) (L : List Inn) (r : Nat) (w : World) (hA : LL w A L) (H0 : Hid (vecR (vsOf L) = 0)) (hpos : 0 < L.length) (hr1 : 1 ≤ r) (hr : r ≤ 256) :
    Calls Tryd.prog 63 #[.slice A L.length c, .int .i64 r] w (RetLL (sdL (vsOf L) (r - 1) [(vsOf L)[0]?.getD []]) w) := by
  obtain ⟨i0, hi0, hz0, hz1, hz2⟩ := info_parts info_ints
  have TI := Lib.hid hi0; have TZ0 := Lib.hid hz0; have TZ1 := Lib.hid hz1; have TZ2 := Lib.hid hz2
  clear hi0 hz0 hz1 hz2
  obtain ⟨j0, hj0, ky0, ky1, ky2⟩ := info_parts int_info
  have KI := Lib.hid hj0; have KZ0 := Lib.hid ky0; have KZ1 := Lib.hid ky1; have KZ2 := Lib.hid ky2
  clear hj0 ky0 ky1 ky2
  have HVL : Hid ((vsOf L).length = L.length) := Lib.hid (by simp)
  have HV := Lib.hid (vecR_ok.1 H0.out).2
  have hl : L.length ≤ 10000 := by have := (vecR_ok.1 H0.out).1; rwa [HVL.out] at this
  have hA0 := Lib.hid hA
  clear hA
  obtain ⟨b0, o0, rfl, hb0, hc0⟩ := hA0.out.lies.lat hpos
  rw [Nat.add_zero] at hc0
  have hx := hA0.out.inn _ (List.getElem_mem hpos)
  have hxo := vecOk_mem HV.out (vs_get hpos)
  have hV0 : Hid ((vsOf L)[0]?.getD [] = L[0].2.2) := Lib.hid (vsOf_get hpos)
  generalize L[0] = X0 at *
  obtain ⟨XA, Xc, x0⟩ := X0
  simp only at *
  have HX := Lib.hid hx
  have hx64 := hxo.2.2.1
  have G := Lib.hid hxo.2.2.2
  have HS1 : Hid (Sd (vsOf L) [x0]) := Lib.hid (by rw [← hV0.out]; exact Sd.one (by rw [HVL.out]; exact hpos))
  rw [hV0.out]
  clear hx hxo hV0
  go_enter Tryd.func63, Tryd.ntmps63
  go_wp2_with (at_builtin; refine wpList_append_srcG _ rfl (.const (.slice none 0 0)) (.tmp 12) _ rfl w.heap.size 3 j0 _ 1 8 Tryd.underlying22 KI.out KZ0.out KZ1.out KZ2.out rfl (by omega) (.slice none 0 0) 0 [] rfl (World.ownsRow_nil _ _ _ _) XA x0.length Xc (ics x0) rfl (fun e => (HX.out.2.1 e).1) HX.out.1 (by simp) (ics_one _) (by unfold maxLen; omega) (by omega) (Nat.le_refl _) x0.length (by simp) ?_; intro A2 c2 w2 ho2 hg2 _; have HO2 := Lib.hid ho2; have B2 := Lib.hid (below_none hg2); clear ho2 hg2)
  clear hc0
  obtain ⟨w3, hw3⟩ : ∃ x, x = w2.alloc (.cells #[Value.slice A2 x0.length c2] 22) := ⟨_, rfl⟩
  rw [← hw3]
  obtain ⟨g, hg⟩ : ∃ g, g = w2.heap.size := ⟨_, rfl⟩
  have LO3 : Hid (LLo w3 w.heap.size (some ⟨g, 0, none⟩) 1 [(A2, c2, x0)]) := Lib.hid (by
    rw [hw3, hg]
    refine LLo.made B2.out.size (heap_alloc_new _ _) (InT.of_own (n := x0.length) (base := w.heap.size) (HO2.out.alloc _) rfl (by omega) (fun y hy => ?_))
    have := allR_mem G.out hy; omega)
  have B3 : Hid (Below w.heap.size w w3) := Lib.hid (by rw [hw3]; exact B2.out.alloc B2.out.size _)
  rw [← hg]
  clear hw3 hg B2 HO2
  go_loopw [5, 6, 7, 8, 9] (fun s _ _ _ _ wr => ∃ n A' c' O, n = (O : List Inn).length ∧ s = .slice A' n c' ∧ n ≤ r ∧ LLo wr w.heap.size A' c' O ∧ Hid (Sd (vsOf L) (vsOf O)) ∧ Hid (sdL (vsOf L) (r - n) (vsOf O) = sdL (vsOf L) (r - 1) [x0]) ∧ Below w.heap.size w wr) (fun s _ _ _ _ _ => r - sliceN s)
  case atStart => exact ⟨1, some ⟨g, 0, none⟩, 1, [(A2, c2, x0)], rfl, rfl, hr1, LO3.out, HS1, Lib.hid rfl, B3.out⟩
  case round =>
    obtain ⟨n, A', c', O, hn, rfl, hnr, r1, r2, r3, r4⟩ := hrel
    have HN := Lib.hid hn
    clear hn LO3
    by_cases hlt : n < r
    · obtain ⟨W0, rfl⟩ : ∃ x, x = wr := ⟨_, rfl⟩
      have R1 := Lib.hid r1
      have R4 := Lib.hid r4
      have HFT : Hid (Fit (vsOf L) (vsOf O)) := Lib.hid (r2.out.fit HV.out (by have := HN.out; simp; omega))
      have hOp : 0 < O.length := by have := r2.out.pos; simpa using this
      have h256 : O.length ≤ 256 := by have := HN.out; omega
      clear r1 r4
      go_wp2_with fail
      go_loopw [6, 7, 8, 9] (fun p q i _ wr => ∃ t : Nat, t ≤ L.length ∧ i = .int .i64 t ∧ p = .int .i64 (max (faK (vsOf L) (vsOf O) t).1 0) ∧ q = .int .i64 (faK (vsOf L) (vsOf O) t).2 ∧ ∃ m, wr = W0.drewN m) (fun _ _ i _ _ => L.length - (intOf i).toNat)
      case atStart => exact ⟨0, by omega, rfl, rfl, rfl, 0, rfl⟩
      case round =>
        obtain ⟨t, ht, rfl, rfl, rfl, m, hwd⟩ := hrel
        have B4 : Hid (Below W0.heap.size W0 wr) := Lib.hid (by rw [hwd]; exact below_drewN' _ _)
        have WD := Lib.hid hwd
        clear hwd
        have LA4 := hA0.out.below (R4.out.trans (B4.out.mono R4.out.size))
        have LO4 := Lib.hid (R1.out.below B4.out)
        have hfa := faK_at (vsOf L) (vsOf O) t
        by_cases hlq : t < L.length
        · obtain ⟨bk, off, eA, hbk, hc⟩ := LA4.lies.lat hlq
          cases eA
          have hx := LA4.inn _ (List.getElem_mem hlq)
          have hxo := vecOk_mem HV.out (vs_get hlq)
          have hwd := Lib.hid (fit_words HFT.out (vs_get hlq))
          have b1 := nrK_bd L[t].2.2 (vsOf O) (vsOf O).length
          obtain ⟨a, ha, hna, hnb⟩ := HFT.out.near (vs_get hlq)
          have ha : a < O.length := by simpa using ha
          have hyes : Hid ((faK (vsOf L) (vsOf O) t).2 < (nr L[t].2.2 (vsOf O)).2 → faK (vsOf L) (vsOf O) (t + 1) = ((t : Int), (nr L[t].2.2 (vsOf O)).2)) := Lib.hid (fun h => by
            have := faK_yes (vs := vsOf L) (out := vsOf O) (i := t) (by rw [vsOf_get hlq]; exact h)
            rwa [vsOf_get hlq] at this)
          have hno : Hid (¬ (faK (vsOf L) (vsOf O) t).2 < (nr L[t].2.2 (vsOf O)).2 → faK (vsOf L) (vsOf O) (t + 1) = faK (vsOf L) (vsOf O) t) := Lib.hid (fun h => faK_no (by rw [vsOf_get hlq]; exact h))
          have LOL := LO4.out.ll
          have hy := LOL.inn _ (List.getElem_mem ha)
          have hyw := hwd.out _ (List.getElem_mem ha)
          obtain ⟨b3, o3, rfl, hb3, hc3⟩ := LOL.lies.lat ha
          have HNB : Hid ((nr L[t].2.2 (vsOf O)).2 = dst L[t].2.2 O[a].2.2) := Lib.hid (by rw [hnb, vsOf_get ha])
          clear LA4 LOL hnb
          generalize L[t] = X at *
          generalize O[a] = Y at *
          obtain ⟨XA, Xc, xl⟩ := X
          obtain ⟨YA, Yc, yl⟩ := Y
          simp only at *
          have HQ1 := Lib.hid (rNear_quiet XA (some ⟨b3, o3, none⟩) Xc c' xl O wr hx.1 LO4.out.ll (Lib.hid hxo.2.2.2) hwd hxo.2.2.1 (by omega) hOp a hna)
          have HQ2 := Lib.hid (rDist_quiet XA YA Xc Yc xl yl wr hx.1 hy.1 (Lib.hid hyw.1) (Lib.hid hxo.2.2.2) (Lib.hid hyw.2.2) hxo.2.2.1)
          rw [HNB.out] at hyes hno
          clear hx hxo hy hyw hwd hna hfa HNB b1
          have hnO : (n : Int) = (O.length : Int) := by rw [HN.out]
          generalize dst xl yl = y at *
          generalize hf : faK (vsOf L) (vsOf O) t = T at *
          have HT := Lib.hid hf
          clear hf
          obtain ⟨t1, t2⟩ := T
          simp only at *
          have HNO := Lib.hid hnO
          have haO : a < n := by rw [HN.out]; exact ha
          clear hnO
          rw [← HN.out] at HQ1
          by_cases hgt : t2 < y
          · have HY := Lib.hid (hyes.out hgt)
            clear hyes hno
            go_wp2_with fail
            go_quiet ((first | (go_at_call 61; exact Calls.quiet_of (HQ1.out _)) | (go_at_call 58; exact Calls.quiet_of (HQ2.out _))))
            go_wp2_with fail
            exact ⟨⟨t + 1, by omega, by go_num, by rw [HY.out]; simp <;> omega, by rw [HY.out], by rw [WD.out]; exact drewN_ex _ _ _⟩, by simp [intOf]; omega⟩
          · have HY := Lib.hid (hno.out hgt)
            clear hyes hno
            go_wp2_with fail
            go_quiet ((first | (go_at_call 61; exact Calls.quiet_of (HQ1.out _)) | (go_at_call 58; exact Calls.quiet_of (HQ2.out _))))
            go_wp2_with fail
            exact ⟨⟨t + 1, by omega, by go_num, by rw [HY.out], by rw [HY.out], by rw [WD.out]; exact drewN_ex _ _ _⟩, by simp [intOf]; omega⟩
        · obtain rfl : t = L.length := by omega
          have E : Hid (faK (vsOf L) (vsOf O) L.length = fa (vsOf L) (vsOf O)) := Lib.hid (by unfold fa; rw [HVL.out])
          rw [E.out] at hfa
          rw [E.out]
          by_cases hneg : (fa (vsOf L) (vsOf O)).1 < 0
          · have ES := Lib.hid (sdL_stop hneg (r - n))
            have hz : (fa (vsOf L) (vsOf O)).2 = 0 := by
              rcases hfa with ⟨_, h⟩ | ⟨a, _, h, _⟩
              · exact h
              · omega
            rw [hz]
            clear LA4 hz hfa hneg
            go_wp2_with fail
            go_ret
            refine ⟨A', c', O, by rw [HN.out]; rfl, Lib.hid ?_, LO4.out, R4.out.trans (B4.out.mono R4.out.size)⟩
            rw [← r3.out, ES.out]
          · obtain ⟨a, ha⟩ : ∃ a : Nat, (fa (vsOf L) (vsOf O)).1 = a := ⟨(fa (vsOf L) (vsOf O)).1.toNat, by omega⟩
            have hfar := Sd.far ha
            have hp2 : 0 < (fa (vsOf L) (vsOf O)).2 := by rw [hfar.2.1]; exact hfar.2.2
            have q9 : ((fa (vsOf L) (vsOf O)).2 == 0) = false := by rw [beq_eq_false_iff_ne]; omega
            have hal : a < L.length := by rw [← HVL.out]; exact hfar.1
            have HS2 := Lib.hid (r2.out.snoc ha)
            have HG : Hid (sdL (vsOf L) (r - n) (vsOf O) = sdL (vsOf L) (r - (n + 1)) (vsOf O ++ [L[a].2.2])) := Lib.hid (by
              rw [show r - n = (r - (n + 1)) + 1 by omega, sdL_go ha, vsOf_get hal])
            rw [vsOf_get hal] at HS2
            obtain ⟨bk, off, eA, hbk, hc⟩ := LA4.lies.lat hal
            cases eA
            have hx := LA4.inn _ (List.getElem_mem hal)
            have hxo := vecOk_mem HV.out (vs_get hal)
            rw [ha, show max (a : Int) 0 = (a : Int) by omega]
            generalize (fa (vsOf L) (vsOf O)).2 = z at *
            clear LA4 hfar ha hneg hfa hp2
            generalize L[a] = X at *
            obtain ⟨XA, Xc, xl⟩ := X
            simp only at *
            have HX := Lib.hid hx
            have hx64 := hxo.2.2.1
            have G := Lib.hid hxo.2.2.2
            have hs4 : w.heap.size ≤ wr.heap.size := Nat.le_trans R4.out.size B4.out.size
            clear hx hxo
            go_wp2_with (first
              | (at_builtin; refine wpList_append_srcG _ rfl (.const (.slice none 0 0)) (.tmp 51) _ rfl wr.heap.size 3 j0 _ 1 8 Tryd.underlying22 KI.out KZ0.out KZ1.out KZ2.out rfl (by omega) (.slice none 0 0) 0 [] rfl (World.ownsRow_nil _ _ _ _) XA xl.length Xc (ics xl) rfl (fun e => (HX.out.2.1 e).1) HX.out.1 (by simp) (ics_one _) (by unfold maxLen; omega) (by omega) (Nat.le_refl _) xl.length (by simp) ?_; intro A5 c5 w5 ho5 hg5 _; have HO5 := Lib.hid ho5; have B5 := Lib.hid (B4.out.trans ((below_none hg5).mono B4.out.size)); have OW5 := Lib.hid (LO4.out.below (below_none hg5)); have hs5 := Nat.le_trans hs4 hg5.size; clear ho5 hg5)
              | (at_builtin; refine wpList_append_srcG _ rfl (.tmp 47) (.tmp 53) _ rfl w.heap.size 22 i0 _ 1 24 Tryd.underlying44 TI.out TZ0.out TZ1.out TZ2.out rfl (by omega) (.slice A' n c') n (lcs O) rfl (by have := OW5.out.row.alloc (.cells #[Value.slice A5 xl.length c5] 22); rw [← HN.out] at this; exact this) (some ⟨w5.heap.size, 0, none⟩) 1 1 [Value.slice A5 xl.length c5] rfl (fun e => by cases e) (lies_new _ _ _) (by simp) (by simp [Value.oneCell']) (by unfold maxLen; omega) (by omega) (by simp; omega) (n + 1) rfl ?_; intro A6 c6 w6 ho6 hg6 _))
            have hit : InT (w5.alloc (.cells #[Value.slice A5 xl.length c5] 22)) (A5, c5, xl) := by
              refine InT.of_own (n := xl.length) (base := wr.heap.size) ?_ rfl (by omega) (fun y hy => ?_)
              · exact HO5.out.alloc _
              · have := allR_mem G.out hy; omega
            have hll : LLo (w5.alloc (.cells #[Value.slice A5 xl.length c5] 22)) w.heap.size A' c' O := OW5.out.below ((Below.refl _ _).alloc (Nat.le_refl _) _)
            have hsn := hll.snoc (n := n) (x := (A5, c5, xl)) (w' := w6) (A' := A6) (c' := c6) (base' := w.heap.size) hit hg6 (by
              rw [← HN.out]
              exact ho6)
            have hbel : Below w.heap.size w w6 := ((R4.out.trans (B5.out.mono R4.out.size)).alloc (by omega) _).grown hg6 (by simp; omega) (fun k hk => (OW5.out.row.lt k (by rw [← hk]; cases A' <;> rfl)).1)
            exact ⟨⟨n + 1, A6, c6, O ++ [(A5, c5, xl)], by rw [List.length_append, ← HN.out]; rfl, rfl, by omega, hsn, Lib.hid (by rw [show vsOf (O ++ [(A5, c5, xl)]) = vsOf O ++ [xl] by simp]; exact HS2.out), Lib.hid (by rw [show vsOf (O ++ [(A5, c5, xl)]) = vsOf O ++ [xl] by simp]; exact HG.out.symm.trans r3.out), hbel⟩, by simp [sliceN]; omega⟩
    · obtain rfl : n = r := by omega
      have R1 := Lib.hid r1
      have R4 := Lib.hid r4
      have E : Hid (vsOf O = sdL (vsOf L) (n - 1) [x0]) := Lib.hid (by rw [← r3.out, Nat.sub_self]; rfl)
      clear r1 r4
      go_wp2_with fail
      go_ret
      exact ⟨A', c', O, by rw [HN.out]; rfl, E, R1.out, R4.out⟩
theorem rSeeds_any (A : Option Addr) (c : Nat) (L : List Inn) (r : Int) (w : World) (hA : LL w A L) (H0 : Hid (vecR (vsOf L) = 0)) (hpos : 0 < L.length) (h1 : 1 ≤ r) (hr : r ≤ 256) :
    Calls Tryd.prog 63 #[.slice A L.length c, .int .i64 r] w (RetLL (sdL (vsOf L) (r.toNat - 1) [(vsOf L)[0]?.getD []]) w) := by
  have h := rSeeds_nat A c L r.toNat w hA H0 hpos (by omega) (by omega)
  rw [show ((r.toNat : Nat) : Int) = r by omega] at h
  exact h
end Go.Proofs.YtfapmghhmkekaaaDoor
