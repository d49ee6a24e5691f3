/- the reference's Improve -/
import Derived.Test.YtfapmghhmkekaaaDoorQRqu
import Derived.Test.YtfapmghhmkekaaaDoorRMean
namespace Go.Proofs.YtfapmghhmkekaaaDoor
open Go.RowKit Ear

theorem qL_at {L : List Inn} {bs : List (List Int)} {k : Nat} (hk : k < L.length) : (qL (vsOf L) bs)[k]?.getD 0 = (nr L[k].2.2 bs).1 := by
  unfold qL
  rw [List.getElem?_map, List.getElem?_map, List.getElem?_eq_getElem hk]; rfl
set_option maxRecDepth 100000 in
set_option maxHeartbeats 4000000 in
theorem rImprove_any (A B : Option Addr) (c d : Nat) (L M : List Inn) (w : World) (hA : LL w A L) (hB : LL w B M) (h0 : Hid (fitR (vsOf L) (vsOf M) = 0)) :
    Calls Tryd.prog 66 #[.slice A L.length c, .slice B M.length d] w (RetLL (impL (vsOf L) (vsOf M)) w) := by
  obtain ⟨i0, hi0, hz0, hz1, hz2⟩ := info_parts info_ints
  have TI := Lib.hid hi0; have TZ0 := Lib.hid hz0; have TZ1 := Lib.hid hz1; have TZ2 := Lib.hid hz2
  clear hi0 hz0 hz1 hz2
  obtain ⟨j0, hj0, ky0, ky1, ky2⟩ := info_parts int_info
  have KI := Lib.hid hj0; have KZ0 := Lib.hid ky0; have KZ1 := Lib.hid ky1; have KZ2 := Lib.hid ky2
  clear hj0 ky0 ky1 ky2
  have HVM : Hid ((vsOf M).length = M.length) := Lib.hid (by simp)
  have HF := Lib.hid (fit_of h0.out)
  have hl : L.length ≤ 10000 := by have := (fitR_ok.1 h0.out).1; simpa using this
  have hm : M.length ≤ 256 := by have := (bookOk_iff.1 HF.out.b).2.1; simpa using this
  go_enter Tryd.func66, Tryd.ntmps66
  go_wp2_with fail
  refine (rQuantize_any A B c d L M w hA hB h0.out).mono ?_
  rintro e w1 ⟨AQ, cq, rfl, hoq, hb1⟩
  have LQ := Lib.hid (Lies.of_own hoq)
  have NQ : Hid ((qL (vsOf L) (vsOf M)).length = L.length) := Lib.hid (by unfold qL; simp)
  have LA1 := Lib.hid (hA.below hb1)
  have LB1 := Lib.hid (hB.below hb1)
  have B1 := Lib.hid hb1
  clear hoq hb1
  go_wp2_with fail
  go_loopw [6, 7, 8, 9] (fun s i _ _ wr => ∃ k : Nat, k ≤ M.length ∧ i = .int .i64 k ∧ ∃ A' c' O, s = .slice A' k c' ∧ LLo wr w1.heap.size A' c' O ∧ Hid (O.length = k) ∧ Hid (vsOf O = (List.range k).map (impAt (vsOf L) (vsOf M))) ∧ Below w1.heap.size w1 wr) (fun _ i _ _ _ => M.length - (intOf i).toNat)
  case atStart => exact ⟨0, by omega, rfl, none, 0, [], rfl, LLo.nil _ _, Lib.hid rfl, Lib.hid rfl, Below.refl _ _⟩
  case round =>
    obtain ⟨k, hk, rfl, A', c', O, rfl, r1, r2, r3, r4⟩ := hrel
    by_cases hlt : k < M.length
    · obtain ⟨W0, rfl⟩ : ∃ x, x = wr := ⟨_, rfl⟩
      have R1 := Lib.hid r1
      have R4 := Lib.hid r4
      clear r1 r4
      go_wp2_with fail
      go_loopw [8, 9] (fun s i wr => ∃ t : Nat, t ≤ L.length ∧ i = .int .i64 t ∧ ∃ n Ay cy, n = (ownI L (vsOf M) t k).length ∧ s = .slice Ay n cy ∧ wr.ownsRow W0.heap.size 22 1 (.slice Ay n cy) n (lcs (ownI L (vsOf M) t k)) ∧ Below W0.heap.size W0 wr) (fun _ i _ => L.length - (intOf i).toNat)
      case atStart => exact ⟨0, by omega, rfl, 0, none, 0, by simp [ownI], rfl, World.ownsRow_nil _ _ _ _, Below.refl _ _⟩
      case round =>
        obtain ⟨t, ht, rfl, n, Ay, cy, hn, rfl, s1, s2⟩ := hrel
        have HN := Lib.hid hn
        have hnt : n ≤ t := by rw [hn]; exact ownI_len _ _ _ _
        clear hn
        have hbel1 := Lib.hid (R4.out.trans (s2.mono R4.out.size))
        by_cases hlq : t < L.length
        · have hq : t < (qL (vsOf L) (vsOf M)).length := by rw [NQ.out]; exact hlq
          obtain ⟨bq, oq, rfl, hbq, hcq⟩ := (LQ.out.below hbel1.out).at_ hq
          rw [qL_at hlq] at hcq
          have hlq2 : t < (qL (vsOf L) (vsOf M)).length := hq
          have hyes : Hid ((nr L[t].2.2 (vsOf M)).1 = (k : Int) → ownI L (vsOf M) (t + 1) k = ownI L (vsOf M) t k ++ [L[t]]) := Lib.hid (fun h => ownI_hit hlq h)
          have hno : Hid (¬ (nr L[t].2.2 (vsOf M)).1 = (k : Int) → ownI L (vsOf M) (t + 1) k = ownI L (vsOf M) t k) := Lib.hid (fun h => ownI_miss hlq h)
          obtain ⟨bk, off, rfl, hbk, hc⟩ := (LA1.out.below hbel1.out).lies.lat hlq
          have S1 := Lib.hid s1
          have S2 := Lib.hid s2
          clear s1 s2
          generalize hX : L[t] = X at *
          have HX := Lib.hid hX
          clear hX
          obtain ⟨XA, Xc, xl⟩ := X
          simp only at *
          have hs1 : W0.heap.size ≤ wr.heap.size := S2.out.size
          generalize hqv : (nr xl (vsOf M)).1 = qv at *
          have HQV := Lib.hid hqv
          clear hqv
          by_cases hqk : qv = (k : Int)
          · have HY := Lib.hid (hyes.out hqk)
            have q1 : (qv == (k : Int)) = true := by simp [hqk]
            clear hyes hno hqk
            go_wp2_with (at_builtin; refine wpList_append_srcG _ rfl (.tmp 31) (.tmp 36) _ rfl W0.heap.size 22 i0 _ 1 24 Tryd.underlying44 TI.out TZ0.out TZ1.out TZ2.out rfl (by omega) (.slice Ay n cy) n (lcs (ownI L (vsOf M) t k)) rfl (S1.out.alloc _) (some ⟨wr.heap.size, 0, none⟩) 1 1 [Value.slice XA xl.length Xc] rfl (fun e => by cases e) (lies_new _ _ _) (by simp) (by simp [Value.oneCell']) (by unfold maxLen; omega) (by omega) (by simp; omega) (n + 1) rfl ?_; intro A4 c4 w4 ho4 hg4 _)
            have hbel : Below W0.heap.size W0 w4 := (S2.out.alloc hs1 _).grown hg4 (by simp; omega) (fun k hk => (S1.out.lt k hk).1)
            exact ⟨⟨t + 1, by omega, by go_num, n + 1, A4, c4, by rw [HY.out, List.length_append, ← HN.out]; rfl, by go_num, by rw [HY.out, lcs, List.map_append]; exact ho4, hbel⟩, by simp [intOf]; omega⟩
          · have HY := Lib.hid (hno.out hqk)
            have q1 : (qv == (k : Int)) = false := by simp [hqk]
            clear hyes hno hqk
            go_wp2_with fail
            exact ⟨⟨t + 1, by omega, by go_num, n, Ay, cy, by rw [HY.out]; exact HN.out, rfl, by rw [HY.out]; exact S1.out, S2.out⟩, by simp [intOf]; omega⟩
        · obtain rfl : t = L.length := by omega
          have hv : Hid (vsOf (ownI L (vsOf M) L.length k) = ownL (vsOf L) (vsOf M) k) := Lib.hid (ownI_all L (vsOf M) k)
          have hmem : Hid (∀ y ∈ ownI L (vsOf M) L.length k, y ∈ L) := Lib.hid (fun y hy => ownI_mem hy)
          generalize ownI L (vsOf M) L.length k = xs at *
          have hs1 : W0.heap.size ≤ wr.heap.size := s2.size
          have hs0 : w1.heap.size ≤ W0.heap.size := R4.out.size
          have R5 := Lib.hid (R1.out.below s2)
          have S2 := Lib.hid s2
          have LB5 := LB1.out.below hbel1.out
          have LA5 := Lib.hid (LA1.out.below hbel1.out)
          clear s2
          by_cases hz : xs = []
          · subst hz
            have hn0 : n = 0 := HN.out
            subst hn0
            have hD : Hid (impAt (vsOf L) (vsOf M) k = M[k].2.2) := Lib.hid (by rw [impAt, if_pos (by rw [← hv.out]; rfl), vsOf_get hlt])
            obtain ⟨bk, off, rfl, hbk, hc⟩ := LB5.lies.lat hlt
            have hx := LB5.inn _ (List.getElem_mem hlt)
            have hxo := vecOk_mem (bookOk_iff.1 HF.out.b).2.2 (vs_get hlt)
            clear LB5 s1
            generalize M[k] = X at *
            obtain ⟨XA, Xc, xl⟩ := X
            simp only at *
            have HX := Lib.hid hx
            have hx64 := hxo.2.2.1
            have G := Lib.hid hxo.2.2.2
            clear hx hxo
            go_wp2_with (first
              | (at_builtin; refine wpList_append_srcG _ rfl (.const (.slice none 0 0)) (.tmp 45) _ rfl wr.heap.size 3 j0 _ 1 8 Tryd.underlying22 KI.out KZ0.out KZ1.out KZ2.out rfl (by omega) (.slice none 0 0) 0 [] rfl (World.ownsRow_nil _ _ _ _) XA xl.length Xc (ics xl) rfl (fun e => (HX.out.2.1 e).1) HX.out.1 (by simp) (ics_one _) (by unfold maxLen; omega) (by omega) (Nat.le_refl _) xl.length (by simp) ?_; intro A3 c3 w3 ho3 hg3 _; have HO3 := Lib.hid ho3; have HB3 := Lib.hid (below_none hg3); have OW3 := Lib.hid (R5.out.below HB3.out); have hs3 := hg3.size; clear ho3 hg3)
              | (at_builtin; refine wpList_append_srcG _ rfl (.tmp 41) (.tmp 47) _ rfl w1.heap.size 22 i0 _ 1 24 Tryd.underlying44 TI.out TZ0.out TZ1.out TZ2.out rfl (by omega) (.slice A' k c') k (lcs O) rfl (by have := OW3.out.row.alloc (.cells #[Value.slice A3 xl.length c3] 22); rw [r2.out] at this; exact this) (some ⟨w3.heap.size, 0, none⟩) 1 1 [Value.slice A3 xl.length c3] rfl (fun e => by cases e) (lies_new _ _ _) (by simp) (by simp [Value.oneCell']) (by unfold maxLen; omega) (by omega) (by simp; omega) (k + 1) rfl ?_; intro A4 c4 w4 ho4 hg4 _))
            have hit : InT (w3.alloc (.cells #[Value.slice A3 xl.length c3] 22)) (A3, c3, xl) := by
              refine InT.of_own (n := xl.length) (base := wr.heap.size) ?_ rfl (by omega) (fun y hy => ?_)
              · exact HO3.out.alloc _
              · have := allR_mem G.out hy; omega
            have hll : LLo (w3.alloc (.cells #[Value.slice A3 xl.length c3] 22)) w1.heap.size A' c' O := OW3.out.below ((Below.refl _ _).alloc (Nat.le_refl _) _)
            have hsn := hll.snoc (n := k) (x := (A3, c3, xl)) (w' := w4) (A' := A4) (c' := c4) (base' := w1.heap.size) hit hg4 (by
              rw [r2.out]
              exact ho4)
            have hbel : Below w1.heap.size w1 w4 := ((hbel1.out.trans (HB3.out.mono hbel1.out.size)).alloc (by omega) _).grown hg4 (by simp; omega) (fun k hk => (OW3.out.row.lt k (by rw [← hk]; cases A' <;> rfl)).1)
            exact ⟨⟨k + 1, by omega, by go_num, A4, c4, _, by go_num, hsn, Lib.hid (by rw [List.length_append, r2.out]; rfl), Lib.hid (by
              have h5 := r3.out
              rw [vsOf] at h5
              rw [vsOf, List.map_append, h5, List.range_succ, List.map_append, List.map_singleton, List.map_singleton, hD.out]), hbel⟩, by simp [intOf]; omega⟩
          · have hpos : 0 < xs.length := List.length_pos_iff.2 hz
            have hnpos : ((n : Int) == 0) = false := by have := HN.out; rw [beq_eq_false_iff_ne]; omega
            have hne : Hid (impAt (vsOf L) (vsOf M) k = meanL (vsOf xs)) := Lib.hid (by
              rw [impAt, if_neg (by rw [← hv.out]; exact fun e => hz (List.map_eq_nil_iff.1 e)), hv.out])
            have hvc : Hid (Vcs (len0 (vsOf L)) (vsOf xs)) := Lib.hid fun y hy => by
              obtain ⟨z, hz1, rfl⟩ := List.mem_map.1 hy
              have := vecOk_mem HF.out.v (List.mem_map_of_mem (f := fun x : Inn => x.2.2) (hmem.out z hz1))
              exact ⟨this.1, this.2.2.2⟩
            have hl0 : len0 (vsOf L) ≤ 64 := by
              obtain ⟨y, hy⟩ := List.exists_mem_of_ne_nil xs hz
              have := vecOk_mem HF.out.v (List.mem_map_of_mem (f := fun x : Inn => x.2.2) (hmem.out y hy))
              omega
            have hll : LL wr Ay xs := ⟨Lies.of_own s1, fun y hy => LA5.out.inn y (hmem.out y hy)⟩
            have HLL := Lib.hid hll
            have HL0 := Lib.hid hl0
            have hln : xs.length ≤ 10000 := by have := HN.out; omega
            have hlm : Hid ((meanL (vsOf xs)).length ≤ 64) := Lib.hid (by
              rw [meanL_length, hvc.out.len0 (by simpa using hpos)]; exact HL0.out)
            have hmb : Hid (∀ y ∈ meanL (vsOf xs), -9223372036854775808 ≤ y ∧ y ≤ 9223372036854775807) := Lib.hid (fun y hy => by
              have := allR_mem (meanL_ok (vs := vsOf xs) (fun e => hz (List.map_eq_nil_iff.1 e)) (fun z hz => (hvc.out z hz).2)) hy
              omega)
            clear hll hl0 s1 LB5 hz
            obtain rfl : n = xs.length := HN.out
            clear HN
            go_wp2_with fail
            refine (rmean_any Ay cy (len0 (vsOf L)) xs wr HLL.out hvc hpos hln (by have := HL0.out; omega)).mono ?_
            rintro e w3 ⟨A3, c3, rfl, ho3, hb3⟩
            have HO3 := Lib.hid ho3
            have HB3 := Lib.hid hb3
            have OW3 := Lib.hid (R5.out.below hb3)
            have hs3 := hb3.size
            clear ho3 hb3
            rw [← hne.out]
            have hlm' := hlm.out
            rw [← hne.out] at hlm'
            generalize hy : impAt (vsOf L) (vsOf M) k = y at *
            have HY := Lib.hid hy
            clear hy
            go_wp2_with (at_builtin; refine wpList_append_srcG _ rfl (.tmp 49) (.tmp 52) _ rfl w1.heap.size 22 i0 _ 1 24 Tryd.underlying44 TI.out TZ0.out TZ1.out TZ2.out rfl (by omega) (.slice A' k c') k (lcs O) rfl (by have := OW3.out.row.alloc (.cells #[Value.slice A3 y.length c3] 22); rw [r2.out] at this; exact this) (some ⟨w3.heap.size, 0, none⟩) 1 1 [Value.slice A3 y.length c3] rfl (fun e => by cases e) (lies_new _ _ _) (by simp) (by simp [Value.oneCell']) (by unfold maxLen; omega) (by omega) (by simp; omega) (k + 1) rfl ?_; intro A4 c4 w4 ho4 hg4 _)
            have hit : InT (w3.alloc (.cells #[Value.slice A3 y.length c3] 22)) (A3, c3, y) := by
              refine InT.of_own (n := y.length) (base := wr.heap.size) ?_ rfl (by omega) (fun z hz => ?_)
              · have := HO3.out
                rw [← hne.out] at this
                exact this.alloc _
              · exact hmb.out z (by rw [← hne.out]; exact hz)
            have hll : LLo (w3.alloc (.cells #[Value.slice A3 y.length c3] 22)) w1.heap.size A' c' O := OW3.out.below ((Below.refl _ _).alloc (Nat.le_refl _) _)
            have hsn := hll.snoc (n := k) (x := (A3, c3, y)) (w' := w4) (A' := A4) (c' := c4) (base' := w1.heap.size) hit hg4 (by
              rw [r2.out]
              exact ho4)
            have hbel : Below w1.heap.size w1 w4 := ((hbel1.out.trans (HB3.out.mono hbel1.out.size)).alloc (by omega) _).grown hg4 (by simp; omega) (fun k hk => (OW3.out.row.lt k (by rw [← hk]; cases A' <;> rfl)).1)
            exact ⟨⟨k + 1, by omega, by go_num, A4, c4, _, by go_num, hsn, Lib.hid (by rw [List.length_append, r2.out]; rfl), Lib.hid (by
              have h5 := r3.out
              rw [vsOf] at h5
              rw [vsOf, List.map_append, h5, List.range_succ, List.map_append, List.map_singleton, List.map_singleton, HY.out]), hbel⟩, by simp [intOf]; omega⟩
    · obtain rfl : k = M.length := by omega
      have E : Hid (vsOf O = impL (vsOf L) (vsOf M)) := Lib.hid (by rw [r3.out, impL, HVM.out])
      go_wp2_with fail
      go_ret
      exact ⟨_, _, O, by rw [r2.out]; rfl, E, r1.le B1.out.size, B1.out.trans (r4.mono B1.out.size)⟩
end Go.Proofs.YtfapmghhmkekaaaDoor
