/- Seeds -/
import Derived.Test.YtfapmghhmkekaaaDoorPSeed
import Derived.Test.YtfapmghhmkekaaaDoorQCost
import Derived.Test.YtfapmghhmkekaaaDoorMc
namespace Go.Proofs.YtfapmghhmkekaaaDoor
open Go.RowKit Ear

/-- the length that a slice value bears -/
def sliceN : Value → Nat
  | .slice _ n _ => n
  | _ => 0
theorem LLo.made {w : World} {g base c : Nat} {A : Option Addr} {x : List Int} (hb : base ≤ g) (hr : w.heap[g]? = some (.cells #[.slice A x.length c] 22 (0, 0))) (hx : InT w (A, c, x)) : LLo w base (some ⟨g, 0, none⟩) 1 [(A, c, x)] :=
  ⟨own_of_row hb hr rfl (by simp [maxLen]), fun y hy => by rw [List.mem_singleton] at hy; subst hy; exact hx⟩
set_option maxRecDepth 100000 in
set_option maxHeartbeats 4000000 in
theorem Seeds_ok (A : Option Addr) (c : Nat) (L : List Inn) (r : Nat) (w : World) (hA : LL w A L) (H0 : Hid (vecR (vsOf L) = 0)) (hpos : 0 < L.length) (hr1 : 1 ≤ r) (hr : r ≤ 256) :
    Calls Tryd.prog 62 #[.slice A L.length c, .int .i64 r] w (LLErr 0 (sdL (vsOf L) (r - 1) [(vsOf L)[0]?.getD []]) w) := by
  obtain ⟨i0, hi0, hz0, hz1, hz2⟩ := info_parts info_ints
  have TI := Lib.hid hi0; have TZ0 := Lib.hid hz0; have TZ1 := Lib.hid hz1; have TZ2 := Lib.hid hz2
  clear hi0 hz0 hz1 hz2
  have HVL : Hid ((vsOf L).length = L.length) := Lib.hid (by simp)
  have HV := Lib.hid (vecR_ok.1 H0.out).2
  have hl : L.length ≤ 10000 := by have := (vecR_ok.1 H0.out).1; rwa [HVL.out] at this
  have hA0 := Lib.hid hA
  clear hA
  obtain ⟨b0, o0, rfl, hb0, hc0⟩ := hA0.out.lies.lat hpos
  rw [Nat.add_zero] at hc0
  have hx := hA0.out.inn _ (List.getElem_mem hpos)
  have hxo := vecOk_mem HV.out (vs_get hpos)
  have hV0 : Hid ((vsOf L)[0]?.getD [] = L[0].2.2) := Lib.hid (vsOf_get hpos)
  generalize L[0] = X0 at *
  obtain ⟨XA, Xc, x0⟩ := X0
  simp only at *
  have HX := Lib.hid hx
  have hx64 := hxo.2.2.1
  have G := Lib.hid hxo.2.2.2
  have HS1 : Hid (Sd (vsOf L) [x0]) := Lib.hid (by rw [← hV0.out]; exact Sd.one (by rw [HVL.out]; exact hpos))
  rw [hV0.out]
  clear hx hxo hV0
  go_enter Tryd.func62, Tryd.ntmps62
  go_wp2_with fail
  refine (vectors_any _ c L w hA0.out.lies hA0.out.inn (by omega) 0 H0).mono ?_
  rintro e w1 ⟨rfl, hb1⟩
  have B1 := Lib.hid hb1
  have HX1 := Lib.hid (HX.out.below hb1)
  have hc1 : w1.cell? ⟨b0, o0, none⟩ = some (.slice XA x0.length Xc) := (hb1.cell (p := ⟨b0, o0, none⟩) hb0).trans hc0
  have hb01 : b0 < w1.heap.size := Nat.lt_of_lt_of_le hb0 hb1.size
  have q5 : ((L.length : Int) == 0) = false := by rw [beq_eq_false_iff_ne]; omega
  have q6 : ¬ L = [] := fun e => by rw [e] at hpos; simp at hpos
  clear hb1 hc0
  go_wp2_with fail
  refine (CloneI_any XA Xc x0 w1 HX1.out.1 HX1.out.2.1 (by omega)).mono ?_
  rintro e w2 ⟨A2, c2, rfl, ho2, hb2⟩
  have B2 := Lib.hid (B1.out.trans (hb2.mono B1.out.size))
  have HO2 := Lib.hid ho2
  clear hb2 ho2 hc1 B1 q5
  go_wp2_with fail
  obtain ⟨w3, hw3⟩ : ∃ x, x = w2.alloc (.cells #[Value.slice A2 x0.length c2] 22) := ⟨_, rfl⟩
  rw [← hw3]
  obtain ⟨g, hg⟩ : ∃ g, g = w2.heap.size := ⟨_, rfl⟩
  have LO3 : Hid (LLo w3 w.heap.size (some ⟨g, 0, none⟩) 1 [(A2, c2, x0)]) := Lib.hid (by
    rw [hw3, hg]
    refine LLo.made B2.out.size (heap_alloc_new _ _) (InT.of_own (n := x0.length) (base := w1.heap.size) (HO2.out.alloc _) rfl (by omega) (fun y hy => ?_))
    have := allR_mem G.out hy; omega)
  have B3 : Hid (Below w.heap.size w w3) := Lib.hid (by rw [hw3]; exact B2.out.alloc B2.out.size _)
  rw [← hg]
  clear hw3 hg B2 HO2
  go_loopw [7, 8, 9, 10, 11, 12, 13] (fun s _ _ _ _ _ _ wr => ∃ n A' c' O, n = (O : List Inn).length ∧ s = .slice A' n c' ∧ n ≤ r ∧ LLo wr w.heap.size A' c' O ∧ Hid (Sd (vsOf L) (vsOf O)) ∧ Hid (sdL (vsOf L) (r - n) (vsOf O) = sdL (vsOf L) (r - 1) [x0]) ∧ Below w.heap.size w wr) (fun s _ _ _ _ _ _ _ => r - sliceN s)
  case atStart => exact ⟨1, some ⟨g, 0, none⟩, 1, [(A2, c2, x0)], rfl, rfl, hr1, LO3.out, HS1, Lib.hid rfl, B3.out⟩
  case round =>
    obtain ⟨n, A', c', O, hn, rfl, hnr, r1, r2, r3, r4⟩ := hrel
    have HN := Lib.hid hn
    clear hn LO3
    by_cases hlt : n < r
    · obtain ⟨W0, rfl⟩ : ∃ x, x = wr := ⟨_, rfl⟩
      have R1 := Lib.hid r1
      have R4 := Lib.hid r4
      have HFT : Hid (Fit (vsOf L) (vsOf O)) := Lib.hid (r2.out.fit HV.out (by have := HN.out; simp; omega))
      clear r1 r4
      go_wp2_with fail
      go_loopw [8, 9, 10, 11, 12, 13, 41] (fun p q _ _ _ _ i wr => ∃ t : Nat, t ≤ L.length ∧ i = .int .i64 t ∧ p = .int .i64 (faK (vsOf L) (vsOf O) t).1 ∧ q = .int .i64 (faK (vsOf L) (vsOf O) t).2 ∧ ∃ m, wr = W0.drewN m) (fun _ _ _ _ _ _ i _ => L.length - (intOf i).toNat)
      case atStart => exact ⟨0, by omega, rfl, rfl, rfl, 0, rfl⟩
      case round =>
        obtain ⟨t, ht, rfl, rfl, rfl, m, hwd⟩ := hrel
        have B4 : Hid (Below W0.heap.size W0 wr) := Lib.hid (by rw [hwd]; exact below_drewN' _ _)
        have WD := Lib.hid hwd
        clear hwd
        have LA4 := hA0.out.below (R4.out.trans (B4.out.mono R4.out.size))
        have LO4 := Lib.hid (R1.out.below B4.out)
        have hfa := faK_at (vsOf L) (vsOf O) t
        by_cases hlq : t < L.length
        · obtain ⟨bk, off, eA, hbk, hc⟩ := LA4.lies.lat hlq
          cases eA
          have hx := LA4.inn _ (List.getElem_mem hlq)
          have hxo := vecOk_mem HV.out (vs_get hlq)
          have hwd := Lib.hid (fit_words HFT.out (vs_get hlq))
          have b1 := nrK_bd L[t].2.2 (vsOf O) (vsOf O).length
          have hyes : Hid ((faK (vsOf L) (vsOf O) t).2 < (nr L[t].2.2 (vsOf O)).2 → faK (vsOf L) (vsOf O) (t + 1) = ((t : Int), (nr L[t].2.2 (vsOf O)).2)) := Lib.hid (fun h => by
            have := faK_yes (vs := vsOf L) (out := vsOf O) (i := t) (by rw [vsOf_get hlq]; exact h)
            rwa [vsOf_get hlq] at this)
          have hno : Hid (¬ (faK (vsOf L) (vsOf O) t).2 < (nr L[t].2.2 (vsOf O)).2 → faK (vsOf L) (vsOf O) (t + 1) = faK (vsOf L) (vsOf O) t) := Lib.hid (fun h => faK_no (by rw [vsOf_get hlq]; exact h))
          clear LA4
          generalize L[t] = X at *
          obtain ⟨XA, Xc, xl⟩ := X
          simp only at *
          have HX := Lib.hid hx
          have hx64 := hxo.2.2.1
          have G := Lib.hid hxo.2.2.2
          clear hx hxo hfa
          have hcall := nearest_any XA A' Xc c' xl O wr HX.out.1 LO4.out.ll G hwd hx64 (by have := HN.out; omega)
          rw [← HN.out] at hcall
          have HCALL := Lib.hid hcall
          clear hcall
          go_wp2_with fail
          refine HCALL.out.mono ?_
          rintro e w' ⟨rfl, m2, rfl⟩
          generalize hp : nr xl (vsOf O) = P at *
          generalize hf : faK (vsOf L) (vsOf O) t = T at *
          have HP := Lib.hid hp
          have HT := Lib.hid hf
          clear hp hf b1
          obtain ⟨p1, p2⟩ := P
          obtain ⟨t1, t2⟩ := T
          simp only at *
          by_cases hgt : t2 < p2
          · have HY := Lib.hid (hyes.out hgt)
            clear hyes hno
            go_wp2_with fail
            exact ⟨⟨t + 1, by omega, by go_num, by rw [HY.out], by rw [HY.out], by rw [WD.out]; exact drewN_ex _ _ _⟩, by simp [intOf]; omega⟩
          · have HY := Lib.hid (hno.out (by omega))
            clear hyes hno
            go_wp2_with fail
            exact ⟨⟨t + 1, by omega, by go_num, by rw [HY.out], by rw [HY.out], by rw [WD.out]; exact drewN_ex _ _ _⟩, by simp [intOf]; omega⟩
        · obtain rfl : t = L.length := by omega
          have E : Hid (faK (vsOf L) (vsOf O) L.length = fa (vsOf L) (vsOf O)) := Lib.hid (by unfold fa; rw [HVL.out])
          clear hfa
          rw [E.out]
          by_cases hneg : (fa (vsOf L) (vsOf O)).1 < 0
          · have ES := Lib.hid (sdL_stop hneg (r - n))
            clear LA4
            go_wp2_with fail
            go_ret2
            refine ⟨A', c', O, by rw [HN.out]; rfl, Lib.hid ?_, LO4.out, R4.out.trans (B4.out.mono R4.out.size)⟩
            rw [← r3.out, ES.out]
          · obtain ⟨a, ha⟩ : ∃ a : Nat, (fa (vsOf L) (vsOf O)).1 = a := ⟨(fa (vsOf L) (vsOf O)).1.toNat, by omega⟩
            have hfar := Sd.far ha
            have hal : a < L.length := by rw [← HVL.out]; exact hfar.1
            have HA := Lib.hid ha
            have HS2 := Lib.hid (r2.out.snoc ha)
            have HG : Hid (sdL (vsOf L) (r - n) (vsOf O) = sdL (vsOf L) (r - (n + 1)) (vsOf O ++ [L[a].2.2])) := Lib.hid (by
              rw [show r - n = (r - (n + 1)) + 1 by omega, sdL_go ha, vsOf_get hal])
            rw [vsOf_get hal] at HS2
            obtain ⟨bk, off, eA, hbk, hc⟩ := LA4.lies.lat hal
            cases eA
            have hx := LA4.inn _ (List.getElem_mem hal)
            have hxo := vecOk_mem HV.out (vs_get hal)
            rw [ha]
            clear LA4 hfar ha hneg
            generalize L[a] = X at *
            obtain ⟨XA, Xc, xl⟩ := X
            simp only at *
            have HX := Lib.hid hx
            have hx64 := hxo.2.2.1
            have G := Lib.hid hxo.2.2.2
            clear hx hxo
            go_wp2_with fail
            refine (CloneI_any XA Xc xl wr HX.out.1 HX.out.2.1 (by omega)).mono ?_
            rintro e w5 ⟨A5, c5, rfl, ho5, hb5⟩
            have HO5 := Lib.hid ho5
            have B5 := Lib.hid (B4.out.trans (hb5.mono B4.out.size))
            have OW5 := Lib.hid (LO4.out.below hb5)
            have hs5 : w.heap.size ≤ w5.heap.size := Nat.le_trans R4.out.size B5.out.size
            clear ho5 hb5
            go_wp2_with (at_builtin; refine wpList_append_srcG _ rfl (.tmp 60) (.tmp 66) _ rfl w.heap.size 22 i0 _ 1 24 Tryd.underlying44 TI.out TZ0.out TZ1.out TZ2.out rfl (by omega) (.slice A' n c') n (lcs O) rfl (by have := OW5.out.row.alloc (.cells #[Value.slice A5 xl.length c5] 22); rw [← HN.out] at this; exact this) (some ⟨w5.heap.size, 0, none⟩) 1 1 [Value.slice A5 xl.length c5] rfl (fun e => by cases e) (lies_new _ _ _) (by simp) (by simp [Value.oneCell']) (by unfold maxLen; omega) (by omega) (by simp; omega) (n + 1) rfl ?_; intro A6 c6 w6 ho6 hg6 _)
            have hit : InT (w5.alloc (.cells #[Value.slice A5 xl.length c5] 22)) (A5, c5, xl) := by
              refine InT.of_own (n := xl.length) (base := wr.heap.size) ?_ rfl (by omega) (fun y hy => ?_)
              · exact HO5.out.alloc _
              · have := allR_mem G.out hy; omega
            have hll : LLo (w5.alloc (.cells #[Value.slice A5 xl.length c5] 22)) w.heap.size A' c' O := OW5.out.below ((Below.refl _ _).alloc (Nat.le_refl _) _)
            have hsn := hll.snoc (n := n) (x := (A5, c5, xl)) (w' := w6) (A' := A6) (c' := c6) (base' := w.heap.size) hit hg6 (by
              rw [← HN.out]
              exact ho6)
            have hbel : Below w.heap.size w w6 := ((R4.out.trans (B5.out.mono R4.out.size)).alloc (by omega) _).grown hg6 (by simp; omega) (fun k hk => (OW5.out.row.lt k (by rw [← hk]; cases A' <;> rfl)).1)
            exact ⟨⟨n + 1, A6, c6, O ++ [(A5, c5, xl)], by rw [List.length_append, ← HN.out]; rfl, rfl, by omega, hsn, Lib.hid (by rw [show vsOf (O ++ [(A5, c5, xl)]) = vsOf O ++ [xl] by simp]; exact HS2.out), Lib.hid (by rw [show vsOf (O ++ [(A5, c5, xl)]) = vsOf O ++ [xl] by simp]; exact HG.out.symm.trans r3.out), hbel⟩, by simp [sliceN]; omega⟩
    · obtain rfl : n = r := by omega
      have R1 := Lib.hid r1
      have R4 := Lib.hid r4
      have E : Hid (vsOf O = sdL (vsOf L) (n - 1) [x0]) := Lib.hid (by rw [← r3.out, Nat.sub_self]; rfl)
      clear r1 r4
      go_wp2_with fail
      go_ret2
      exact ⟨A', c', O, by rw [HN.out]; rfl, E, R1.out, R4.out⟩
set_option maxRecDepth 100000 in
set_option maxHeartbeats 1000000 in
theorem Seeds_arg (A : Option Addr) (c : Nat) (L : List Inn) (r : Int) (w : World) (hA : LL w A L) (hn : L.length ≤ 9223372036854775807) (H0 : Hid (vecR (vsOf L) = 0)) (h : L.length = 0 ∨ r < 1 ∨ 256 < r) :
    Calls Tryd.prog 62 #[.slice A L.length c, .int .i64 r] w (LLErr 2 [] w) := by
  by_cases hz : L.length = 0
  · have HZ := Lib.hid hz
    clear h hz
    go_enter Tryd.func62, Tryd.ntmps62
    go_wp2_with fail
    refine (vectors_any A c L w hA.lies hA.inn hn 0 H0).mono ?_
    rintro e w1 ⟨rfl, hb1⟩
    have hz := HZ.out
    clear HZ
    generalize L.length = ll at *
    subst hz
    go_wp2_with fail
    go_ret2
    exact ⟨none, 0, [], rfl, Lib.hid rfl, LLo.nil _ _, hb1⟩
  · have q5 : ((L.length : Int) == 0) = false := by rw [beq_eq_false_iff_ne]; omega
    have q6 : ¬ L = [] := fun e => by rw [e] at hz; simp at hz
    have h' : r < 1 ∨ 256 < r := by omega
    clear h hz
    rcases h' with h | h
    all_goals
      go_enter Tryd.func62, Tryd.ntmps62
      go_wp2_with fail
      refine (vectors_any A c L w hA.lies hA.inn hn 0 H0).mono ?_
      rintro e w1 ⟨rfl, hb1⟩
      go_wp2_with fail
      go_ret2
      exact ⟨none, 0, [], rfl, Lib.hid rfl, LLo.nil _ _, hb1⟩
set_option maxRecDepth 100000 in
set_option maxHeartbeats 1000000 in
theorem Seeds_any (A : Option Addr) (c : Nat) (L : List Inn) (r : Int) (w : World) (hA : LL w A L) (hn : L.length ≤ 9223372036854775807) (err : Int) (out : List (List Int)) (ho : Hid (seeR (vsOf L) r = (err, out))) :
    Calls Tryd.prog 62 #[.slice A L.length c, .int .i64 r] w (LLErr err out w) := by
  have hvl : (vsOf L).length = L.length := by simp
  have ho' := ho.out
  unfold seeR at ho'
  by_cases h0 : vecR (vsOf L) = 0
  · rw [if_pos h0] at ho'
    by_cases h1 : vsOf L = [] ∨ r < 1 ∨ 256 < r
    · rw [if_pos h1] at ho'
      injection ho' with e1 e2
      subst e1 e2
      refine Seeds_arg A c L r w hA hn (Lib.hid h0) ?_
      rcases h1 with h1 | h1
      · exact .inl (by rw [← hvl, h1]; rfl)
      · exact .inr h1
    · rw [if_neg h1] at ho'
      injection ho' with e1 e2
      subst e1 e2
      have hpos : 0 < L.length := by
        rw [← hvl]
        exact List.length_pos_iff.2 (fun e => h1 (.inl e))
      have h := Seeds_ok A c L r.toNat w hA (Lib.hid h0) hpos (by omega) (by omega)
      rw [show ((r.toNat : Nat) : Int) = r by omega] at h
      exact h
  · rw [if_neg h0] at ho'
    injection ho' with e1 e2
    subst e2
    have hne : (err != 0) = true := by rw [← e1]; simpa using h0
    have H0 := Lib.hid e1
    clear h0 e1 ho hvl
    go_enter Tryd.func62, Tryd.ntmps62
    go_wp2_with fail
    refine (vectors_any A c L w hA.lies hA.inn hn err H0).mono ?_
    rintro e w1 ⟨rfl, hb1⟩
    go_wp2_with fail
    go_ret2
    exact ⟨none, 0, [], rfl, Lib.hid rfl, LLo.nil _ _, hb1⟩
end Go.Proofs.YtfapmghhmkekaaaDoor
