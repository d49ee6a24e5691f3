/- the reference's Train -/
import Derived.Test.YtfapmghhmkekaaaDoorQTrn
import Derived.Test.YtfapmghhmkekaaaDoorRImp
namespace Go.Proofs.YtfapmghhmkekaaaDoor
open Go.RowKit Ear

/-- the post of the reference's Train -/
def RTrn (n : Int) (out : List (List Int)) (w : World) (e : Ending) (w' : World) : Prop :=
  ∃ A c L, e = .returned (.tuple #[.slice A (L : List Inn).length c, .int .i64 n]) ∧ Hid (vsOf L = out) ∧ LLo w' w.heap.size A c L ∧ Below w.heap.size w w'
theorem SameLists_b (A B : Option Addr) (c d : Nat) (L M : List Inn) (w : World) (hA : LL w A L) (hB : LL w B M) (hna : L.length ≤ 1000000) (r : Bool) (hr : Hid (decide (vsOf L = vsOf M) = r)) :
    Calls Tryd.prog 48 #[.slice A L.length c, .slice B M.length d] w (RetBool r w) := SameLists_any A B c d L M w hA hB (by omega) r hr
set_option maxRecDepth 100000 in
set_option maxHeartbeats 4000000 in
theorem rTrain_nat (A B : Option Addr) (c d : Nat) (L M : List Inn) (r : Nat) (w : World) (hA : LL w A L) (hB : LL w B M) (H0 : Hid (fitR (vsOf L) (vsOf M) = 0)) (hr : r ≤ 1000) :
    Calls Tryd.prog 67 #[.slice A L.length c, .slice B M.length d, .int .i64 r] w (RTrn (trn (vsOf L) r (vsOf M)).2 (trn (vsOf L) r (vsOf M)).1 w) := by
  obtain ⟨i0, hi0, hz0, hz1, hz2⟩ := info_parts info_ints
  have TI := Lib.hid hi0; have TZ0 := Lib.hid hz0; have TZ1 := Lib.hid hz1; have TZ2 := Lib.hid hz2
  clear hi0 hz0 hz1 hz2
  obtain ⟨j0, hj0, ky0, ky1, ky2⟩ := info_parts int_info
  have KI := Lib.hid hj0; have KZ0 := Lib.hid ky0; have KZ1 := Lib.hid ky1; have KZ2 := Lib.hid ky2
  clear hj0 ky0 ky1 ky2
  have HF := Lib.hid (fit_of H0.out)
  have HL : Hid ((vsOf L).length ≤ 10000) := Lib.hid (fitR_ok.1 H0.out).1
  have hm : M.length ≤ 256 := by have := (bookOk_iff.1 HF.out.b).2.1; simpa using this
  have HB := Lib.hid hB
  clear hB
  go_enter Tryd.func67, Tryd.ntmps67
  go_wp2_with fail
  go_loopw [1, 8, 9] (fun b i _ wr => ∃ n : Nat, n ≤ r ∧ i = .int .i64 n ∧ ∃ B' d' M', b = .slice B' (M' : List Inn).length d' ∧ LL wr B' M' ∧ Hid (M'.length = M.length) ∧ Hid (Fit (vsOf L) (vsOf M')) ∧ Hid (TrnAt (vsOf L) (vsOf M) (vsOf M') r n) ∧ Below w.heap.size w wr) (fun _ i _ _ => r - (intOf i).toNat)
  case atStart => exact ⟨0, by omega, rfl, B, d, M, rfl, HB.out, Lib.hid rfl, HF, Lib.hid (TrnAt.start _ _ _), Below.refl _ _⟩
  case round =>
    obtain ⟨n, hn, rfl, B', d', M', rfl, q1, q2, F0, q4, q5⟩ := hrel
    have hml : M'.length ≤ 256 := by rw [q2.out]; exact hm
    by_cases hlr : n < r
    · have Q1 := Lib.hid q1
      have Q5 := Lib.hid q5
      clear q1 q5
      go_wp2_with fail
      refine (rImprove_any A B' c d' L M' wr (hA.below Q5.out) Q1.out (Lib.hid (fitR_ok.2 ⟨HL.out, F0.out.v, F0.out.b, F0.out.e⟩))).mono ?_
      rintro e w3 ⟨A3, c3, O3, rfl, hv3, hl3, hb3⟩
      have B3 := Lib.hid (Q5.out.trans (hb3.mono Q5.out.size))
      have L3 := Lib.hid hl3.ll
      have R3 := Lib.hid (Q1.out.below hb3)
      have N3 : Hid (O3.length = M.length) := Lib.hid (by
        have := congrArg List.length hv3.out
        rw [impL_length] at this
        simp at this
        rw [this, q2.out])
      clear hb3 hl3 Q1 Q5
      have h3l : O3.length ≤ 256 := by rw [N3.out]; exact hm
      cases hd : decide (vsOf O3 = vsOf M') with
      | true =>
        have HD := Lib.hid hd
        have E0 : Hid (trn (vsOf L) r (vsOf M) = (vsOf M', n)) := Lib.hid (q4.out.stop (by rw [← hv3.out]; exact of_decide_eq_true hd))
        clear hd
        go_wp2_with fail
        refine (SameLists_b A3 B' c3 d' O3 M' w3 L3.out R3.out (by omega) true HD).mono ?_
        rintro e W0 ⟨rfl, n4, hw4⟩
        have LM0 : Hid (LL W0 B' M') := Lib.hid (by rw [hw4]; exact R3.out.below (below_drewN' _ _))
        have B0 : Hid (Below w.heap.size w W0) := Lib.hid (by rw [hw4]; exact B3.out.trans (below_drewN' _ _))
        clear hw4 B3 R3
        go_wp2_with fail
        go_loopw [10, 11] (fun s i wr => ∃ k : Nat, k ≤ M'.length ∧ i = .int .i64 k ∧ ∃ A' c' O, s = .slice A' k c' ∧ LLo wr W0.heap.size A' c' O ∧ Hid (O.length = k) ∧ Hid (vsOf O = (vsOf M').take k) ∧ Below W0.heap.size W0 wr) (fun _ i _ => M'.length - (intOf i).toNat)
        case atStart => exact ⟨0, by omega, rfl, none, 0, [], rfl, LLo.nil _ _, Lib.hid rfl, Lib.hid rfl, Below.refl _ _⟩
        case round =>
          obtain ⟨k, hk, rfl, A', c', O, rfl, r1, r2, r3, r4⟩ := hrel
          by_cases hlt : k < M'.length
          · have LB5 := LM0.out.below r4
            have R1 := Lib.hid r1
            have R4 := Lib.hid r4
            have hs4 := r4.size
            clear r1 r4
            obtain ⟨bk, off, rfl, hbk, hc⟩ := LB5.lies.lat hlt
            have hx := LB5.inn _ (List.getElem_mem hlt)
            have hxo := vecOk_mem (bookOk_iff.1 F0.out.b).2.2 (vs_get hlt)
            have hD : Hid ((vsOf M').take (k + 1) = (vsOf M').take k ++ [M'[k].2.2]) := Lib.hid (by
              rw [List.take_succ_eq_append_getElem (by simpa using hlt)]; simp)
            clear LB5
            generalize M'[k] = X at *
            obtain ⟨XA, Xc, xl⟩ := X
            simp only at *
            have HX := Lib.hid hx
            have hx64 := hxo.2.2.1
            have G := Lib.hid hxo.2.2.2
            clear hx hxo
            go_wp2_with (first
              | (at_builtin; refine wpList_append_srcG _ rfl (.const (.slice none 0 0)) (.tmp 34) _ rfl wr.heap.size 3 j0 _ 1 8 Tryd.underlying22 KI.out KZ0.out KZ1.out KZ2.out rfl (by omega) (.slice none 0 0) 0 [] rfl (World.ownsRow_nil _ _ _ _) XA xl.length Xc (ics xl) rfl (fun e => (HX.out.2.1 e).1) HX.out.1 (by simp) (ics_one _) (by unfold maxLen; omega) (by omega) (Nat.le_refl _) xl.length (by simp) ?_; intro A3 c3 w3 ho3 hg3 _; have HO3 := Lib.hid ho3; have HB3 := Lib.hid (below_none hg3); have OW3 := Lib.hid (R1.out.below HB3.out); have hs3 := hg3.size; clear ho3 hg3)
              | (at_builtin; refine wpList_append_srcG _ rfl (.tmp 30) (.tmp 36) _ rfl W0.heap.size 22 i0 _ 1 24 Tryd.underlying44 TI.out TZ0.out TZ1.out TZ2.out rfl (by omega) (.slice A' k c') k (lcs O) rfl (by have := OW3.out.row.alloc (.cells #[Value.slice A3 xl.length c3] 22); rw [r2.out] at this; exact this) (some ⟨w3.heap.size, 0, none⟩) 1 1 [Value.slice A3 xl.length c3] rfl (fun e => by cases e) (lies_new _ _ _) (by simp) (by simp [Value.oneCell']) (by unfold maxLen; omega) (by omega) (by simp; omega) (k + 1) rfl ?_; intro A4 c4 w4 ho4 hg4 _))
            have hit : InT (w3.alloc (.cells #[Value.slice A3 xl.length c3] 22)) (A3, c3, xl) := by
              refine InT.of_own (n := xl.length) (base := wr.heap.size) ?_ rfl (by omega) (fun y hy => ?_)
              · exact HO3.out.alloc _
              · have := allR_mem G.out hy; omega
            have hll : LLo (w3.alloc (.cells #[Value.slice A3 xl.length c3] 22)) W0.heap.size A' c' O := OW3.out.below ((Below.refl _ _).alloc (Nat.le_refl _) _)
            have hsn := hll.snoc (n := k) (x := (A3, c3, xl)) (w' := w4) (A' := A4) (c' := c4) (base' := W0.heap.size) hit hg4 (by
              rw [r2.out]
              exact ho4)
            have hbel : Below W0.heap.size W0 w4 := ((R4.out.trans (HB3.out.mono R4.out.size)).alloc (by omega) _).grown hg4 (by simp; omega) (fun k hk => (OW3.out.row.lt k (by rw [← hk]; cases A' <;> rfl)).1)
            exact ⟨⟨k + 1, by omega, by go_num, A4, c4, _, by go_num, hsn, Lib.hid (by rw [List.length_append, r2.out]; rfl), Lib.hid (by
              have h5 := r3.out
              rw [vsOf] at h5
              rw [vsOf, List.map_append, h5, hD.out]; rfl), hbel⟩, by simp [intOf]; omega⟩
          · obtain rfl : k = M'.length := by omega
            have E2 : Hid (vsOf O = vsOf M') := Lib.hid (by rw [r3.out, List.take_of_length_le (by simp)])
            have R1 := Lib.hid r1
            have R4 := Lib.hid r4
            clear r1 r4
            go_wp2_with fail
            go_ret2
            exact ⟨A', c', O, by rw [E0.out, r2.out]; rfl, Lib.hid (by rw [E0.out, E2.out]), R1.out.le B0.out.size, B0.out.trans (R4.out.mono B0.out.size)⟩
      | false =>
        have HD := Lib.hid hd
        have E : Hid (TrnAt (vsOf L) (vsOf M) (vsOf O3) r (n + 1)) := Lib.hid (by
          rw [hv3.out]
          exact q4.out.next hlr (by rw [← hv3.out]; exact of_decide_eq_false hd))
        have F3 : Hid (Fit (vsOf L) (vsOf O3)) := Lib.hid (by rw [hv3.out]; exact F0.out.improve)
        clear hd
        go_wp2_with fail
        refine (SameLists_b A3 B' c3 d' O3 M' w3 L3.out R3.out (by omega) false HD).mono ?_
        rintro e w4 ⟨rfl, n4, rfl⟩
        go_wp2_with fail
        exact ⟨⟨n + 1, by omega, by go_num, A3, c3, O3, rfl, L3.out.below (below_drewN' _ _), N3, F3, E, B3.out.trans (below_drewN' _ _)⟩, by simp [intOf]; omega⟩
    · obtain rfl : n = r := by omega
      have E0 : Hid (trn (vsOf L) n (vsOf M) = (vsOf M', n)) := Lib.hid q4.out.done
      obtain ⟨W0, rfl⟩ : ∃ x, x = wr := ⟨_, rfl⟩
      have LM0 := Lib.hid q1
      have B0 := Lib.hid q5
      clear q1 q5
      go_wp2_with fail
      go_loopw [10, 11] (fun s i wr => ∃ k : Nat, k ≤ M'.length ∧ i = .int .i64 k ∧ ∃ A' c' O, s = .slice A' k c' ∧ LLo wr W0.heap.size A' c' O ∧ Hid (O.length = k) ∧ Hid (vsOf O = (vsOf M').take k) ∧ Below W0.heap.size W0 wr) (fun _ i _ => M'.length - (intOf i).toNat)
      case atStart => exact ⟨0, by omega, rfl, none, 0, [], rfl, LLo.nil _ _, Lib.hid rfl, Lib.hid rfl, Below.refl _ _⟩
      case round =>
        obtain ⟨k, hk, rfl, A', c', O, rfl, r1, r2, r3, r4⟩ := hrel
        by_cases hlt : k < M'.length
        · have LB5 := LM0.out.below r4
          have R1 := Lib.hid r1
          have R4 := Lib.hid r4
          have hs4 := r4.size
          clear r1 r4
          obtain ⟨bk, off, rfl, hbk, hc⟩ := LB5.lies.lat hlt
          have hx := LB5.inn _ (List.getElem_mem hlt)
          have hxo := vecOk_mem (bookOk_iff.1 F0.out.b).2.2 (vs_get hlt)
          have hD : Hid ((vsOf M').take (k + 1) = (vsOf M').take k ++ [M'[k].2.2]) := Lib.hid (by
            rw [List.take_succ_eq_append_getElem (by simpa using hlt)]; simp)
          clear LB5
          generalize M'[k] = X at *
          obtain ⟨XA, Xc, xl⟩ := X
          simp only at *
          have HX := Lib.hid hx
          have hx64 := hxo.2.2.1
          have G := Lib.hid hxo.2.2.2
          clear hx hxo
          go_wp2_with (first
            | (at_builtin; refine wpList_append_srcG _ rfl (.const (.slice none 0 0)) (.tmp 34) _ rfl wr.heap.size 3 j0 _ 1 8 Tryd.underlying22 KI.out KZ0.out KZ1.out KZ2.out rfl (by omega) (.slice none 0 0) 0 [] rfl (World.ownsRow_nil _ _ _ _) XA xl.length Xc (ics xl) rfl (fun e => (HX.out.2.1 e).1) HX.out.1 (by simp) (ics_one _) (by unfold maxLen; omega) (by omega) (Nat.le_refl _) xl.length (by simp) ?_; intro A3 c3 w3 ho3 hg3 _; have HO3 := Lib.hid ho3; have HB3 := Lib.hid (below_none hg3); have OW3 := Lib.hid (R1.out.below HB3.out); have hs3 := hg3.size; clear ho3 hg3)
            | (at_builtin; refine wpList_append_srcG _ rfl (.tmp 30) (.tmp 36) _ rfl W0.heap.size 22 i0 _ 1 24 Tryd.underlying44 TI.out TZ0.out TZ1.out TZ2.out rfl (by omega) (.slice A' k c') k (lcs O) rfl (by have := OW3.out.row.alloc (.cells #[Value.slice A3 xl.length c3] 22); rw [r2.out] at this; exact this) (some ⟨w3.heap.size, 0, none⟩) 1 1 [Value.slice A3 xl.length c3] rfl (fun e => by cases e) (lies_new _ _ _) (by simp) (by simp [Value.oneCell']) (by unfold maxLen; omega) (by omega) (by simp; omega) (k + 1) rfl ?_; intro A4 c4 w4 ho4 hg4 _))
          have hit : InT (w3.alloc (.cells #[Value.slice A3 xl.length c3] 22)) (A3, c3, xl) := by
            refine InT.of_own (n := xl.length) (base := wr.heap.size) ?_ rfl (by omega) (fun y hy => ?_)
            · exact HO3.out.alloc _
            · have := allR_mem G.out hy; omega
          have hll : LLo (w3.alloc (.cells #[Value.slice A3 xl.length c3] 22)) W0.heap.size A' c' O := OW3.out.below ((Below.refl _ _).alloc (Nat.le_refl _) _)
          have hsn := hll.snoc (n := k) (x := (A3, c3, xl)) (w' := w4) (A' := A4) (c' := c4) (base' := W0.heap.size) hit hg4 (by
            rw [r2.out]
            exact ho4)
          have hbel : Below W0.heap.size W0 w4 := ((R4.out.trans (HB3.out.mono R4.out.size)).alloc (by omega) _).grown hg4 (by simp; omega) (fun k hk => (OW3.out.row.lt k (by rw [← hk]; cases A' <;> rfl)).1)
          exact ⟨⟨k + 1, by omega, by go_num, A4, c4, _, by go_num, hsn, Lib.hid (by rw [List.length_append, r2.out]; rfl), Lib.hid (by
            have h5 := r3.out
            rw [vsOf] at h5
            rw [vsOf, List.map_append, h5, hD.out]; rfl), hbel⟩, by simp [intOf]; omega⟩
        · obtain rfl : k = M'.length := by omega
          have E2 : Hid (vsOf O = vsOf M') := Lib.hid (by rw [r3.out, List.take_of_length_le (by simp)])
          have R1 := Lib.hid r1
          have R4 := Lib.hid r4
          clear r1 r4
          go_wp2_with fail
          go_ret2
          exact ⟨A', c', O, by rw [E0.out, r2.out]; rfl, Lib.hid (by rw [E0.out, E2.out]), R1.out.le B0.out.size, B0.out.trans (R4.out.mono B0.out.size)⟩
theorem rTrain_any (A B : Option Addr) (c d : Nat) (L M : List Inn) (r : Int) (w : World) (hA : LL w A L) (hB : LL w B M) (H0 : Hid (fitR (vsOf L) (vsOf M) = 0)) (h0 : 0 ≤ r) (hr : r ≤ 1000) :
    Calls Tryd.prog 67 #[.slice A L.length c, .slice B M.length d, .int .i64 r] w (RTrn (trn (vsOf L) r.toNat (vsOf M)).2 (trn (vsOf L) r.toNat (vsOf M)).1 w) := by
  have h := rTrain_nat A B c d L M r.toNat w hA hB H0 (by omega)
  rw [show ((r.toNat : Nat) : Int) = r by omega] at h
  exact h
end Go.Proofs.YtfapmghhmkekaaaDoor
