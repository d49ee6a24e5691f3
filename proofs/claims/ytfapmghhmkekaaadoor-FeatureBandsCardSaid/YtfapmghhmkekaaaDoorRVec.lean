/- the reference's Vectors and Wrong; few -/
import Derived.Test.YtfapmghhmkekaaaDoorMc
import Derived.Test.YtfapmghhmkekaaaDoorMa
namespace Go.Proofs.YtfapmghhmkekaaaDoor
open Go.RowKit Ear

/-- few vectors, or too many -/
def fewR (vs : List (List Int)) (m : Nat) : Bool := (vs.take (m + 1)).all (fun x => decide (x.length ≤ 70)) && (decide (vs.length ≤ m) || (decide (10000 < vs.length) && decide (vs.length < 20000)))
theorem fewR_true {vs : List (List Int)} {m : Nat} (h : fewR vs m = true) : vs.length ≤ m ∨ 10000 < vs.length := by
  simp only [fewR, Bool.and_eq_true, Bool.or_eq_true, decide_eq_true_eq] at h
  rcases h.2 with h | h
  · exact .inl h
  · exact .inr h.1

set_option maxRecDepth 100000 in
set_option maxHeartbeats 1000000 in
theorem few_any (A : Option Addr) (c m : Nat) (L : List Inn) (w : World) (hA : LL w A L) (hn : L.length ≤ 9223372036854775807) (hm : m ≤ 1000) (r : Bool) (hr : Hid (fewR (vsOf L) m = r)) :
    Calls Tryd.prog 41 #[.slice A L.length c, .int .i64 m] w fun e w' => e = .returned (.bool r) ∧ w = w' := by
  have HVL : Hid ((vsOf L).length = L.length) := Lib.hid (by simp)
  go_enter Tryd.func41, Tryd.ntmps41
  go_wp2_with fail
  go_loop [5] (fun i => ∃ k : Nat, k ≤ L.length ∧ k ≤ m + 1 ∧ i = .int .i64 k ∧ Hid (((vsOf L).take k).all (fun x => decide (x.length ≤ 70)) = true)) (fun i => L.length - (intOf i).toNat)
  case atStart => exact ⟨0, by omega, by omega, rfl, Lib.hid rfl⟩
  case round =>
    obtain ⟨k, hk, hk2, rfl, hp⟩ := hrel
    have fin : (k = L.length ∨ k = m + 1) → Hid ((decide (L.length ≤ m) || (decide (10000 < L.length) && decide (L.length < 20000))) = r) := fun h => Lib.hid (by
      have e : (vsOf L).take (m + 1) = (vsOf L).take k := by
        rcases h with h | h
        · rw [List.take_of_length_le (by rw [HVL.out]; omega), List.take_of_length_le (by rw [HVL.out]; omega)]
        · rw [h]
      have h2 := hr.out
      unfold fewR at h2
      rw [e, hp.out, HVL.out, Bool.true_and] at h2
      exact h2)
    have FIN := Lib.hid fin
    clear fin
    by_cases hlt : k < L.length
    · by_cases hkm : k ≤ m
      · obtain ⟨bk, off, rfl, hbk, hc⟩ := hA.lies.lat hlt
        have q1 : k < (vsOf L).length := by rw [HVL.out]; exact hlt
        have hget : (vsOf L)[k] = L[k].2.2 := by simp
        by_cases h70 : L[k].2.2.length ≤ 70
        · have HY := Lib.hid (vall_take_succ (p := fun x => decide (x.length ≤ 70)) q1 hp.out (by rw [hget]; simpa using h70))
          clear FIN hget q1 hp
          generalize L[k] = X at *
          obtain ⟨XA, Xc, xl⟩ := X
          simp only at *
          go_wp2_with fail
          exact ⟨⟨k + 1, by omega, by omega, by go_num, HY⟩, by simp [intOf]; omega⟩
        · have hz : r = false := by
            have h3 : ((vsOf L).take (m + 1)).all (fun x => decide (x.length ≤ 70)) = false := by
              refine vall_false_at (k := k) (by rw [List.length_take, HVL.out]; omega) ?_
              rw [List.getElem_take, hget]; simpa using h70
            have h2 := hr.out
            unfold fewR at h2
            rw [h3, Bool.false_and] at h2
            exact h2.symm
          subst hz
          clear FIN hget q1 hp hr
          generalize L[k] = X at *
          obtain ⟨XA, Xc, xl⟩ := X
          simp only at *
          go_wp2_with fail
          go_ret
          exact ⟨rfl, rfl⟩
      · have F := FIN.out (.inr (by omega))
        have n1 : ¬ L.length ≤ m := by omega
        clear FIN hp hr
        by_cases h1 : 10000 < L.length
        · by_cases h2 : L.length < 20000
          · have hz : r = true := by rw [← F.out]; simp [h1, h2]
            subst hz
            clear F
            go_wp2_with fail
            all_goals (go_ret; exact ⟨ret_bool (by simp <;> omega), rfl⟩)
          · have hz : r = false := by rw [← F.out]; simp [h2, n1]
            subst hz
            clear F
            go_wp2_with fail
            all_goals (go_ret; exact ⟨ret_bool (by simp <;> omega), rfl⟩)
        · have hz : r = false := by rw [← F.out]; simp [h1, n1]
          subst hz
          clear F
          go_wp2_with fail
          go_ret
          exact ⟨rfl, rfl⟩
    · have F := FIN.out (.inl (by omega))
      clear FIN hp hr
      by_cases h0 : L.length ≤ m
      · have hz : r = true := by rw [← F.out]; simp [h0]
        subst hz
        clear F
        go_wp2_with fail
        go_ret
        exact ⟨rfl, rfl⟩
      · by_cases h1 : 10000 < L.length
        · by_cases h2 : L.length < 20000
          · have hz : r = true := by rw [← F.out]; simp [h1, h2]
            subst hz
            clear F
            go_wp2_with fail
            all_goals (go_ret; exact ⟨ret_bool (by simp <;> omega), rfl⟩)
          · have hz : r = false := by rw [← F.out]; simp [h2, h0]
            subst hz
            clear F
            go_wp2_with fail
            all_goals (go_ret; exact ⟨ret_bool (by simp <;> omega), rfl⟩)
        · have hz : r = false := by rw [← F.out]; simp [h1, h0]
          subst hz
          clear F
          go_wp2_with fail
          go_ret
          exact ⟨rfl, rfl⟩
theorem All_quiet (A : Option Addr) (c : Nat) (l : List Int) (lo hi : Int) (w : World) (h : Lies w A (ics l)) (hn : l.length ≤ 9223372036854775807) (b : Bool) (hb' : Hid (allR lo hi l = b)) (m : Nat) :
    Calls Tryd.prog 23 #[.slice A l.length c, .int .i64 lo, .int .i64 hi] (w.drewN m) fun e w' => e = .returned (.bool b) ∧ w' = w.drewN m :=
  (All_any A c l lo hi (w.drewN m) (h.drewN m) hn b hb').mono fun _ _ ⟨h1, h2⟩ => ⟨h1, h2.symm⟩

set_option maxRecDepth 100000 in
set_option maxHeartbeats 2000000 in
theorem rVectors_any (A : Option Addr) (c : Nat) (L : List Inn) (w : World) (hA : LL w A L) (hn : L.length ≤ 9223372036854775807) (r : Bool) (hr : Hid (vecOk (vsOf L) = r)) :
    Calls Tryd.prog 47 #[.slice A L.length c] w (RetBool r w) := by
  have HVL : Hid ((vsOf L).length = L.length) := Lib.hid (by simp)
  go_enter Tryd.func47, Tryd.ntmps47
  go_wp2_with fail
  go_loopw [3] (fun i wr => ∃ k : Nat, k ≤ L.length ∧ i = .int .i64 k ∧ Hid (((vsOf L).take k).all (okV (len0 (vsOf L))) = true) ∧ ∃ n, wr = w.drewN n) (fun i _ => L.length - (intOf i).toNat)
  case atStart => exact ⟨0, by omega, rfl, rfl, 0, rfl⟩
  case round =>
    obtain ⟨k, hk, rfl, hp, n, rfl⟩ := hrel
    by_cases hlt : k < L.length
    · obtain ⟨bk, off, rfl, hbk, hc⟩ := (show Lies (w.drewN n) A (lcs L) from hA.lies).lat hlt
      obtain ⟨b0, o0, eA, hb0, hc0⟩ := (show Lies (w.drewN n) _ (lcs L) from hA.lies).lat (k := 0) (by omega)
      cases eA
      rw [Nat.add_zero] at hc0
      have hx : InOk (w.drewN n) L[k] := hA.inn _ (List.getElem_mem hlt)
      have hL0 := len0_at (L := L) (by omega)
      have hget : (vsOf L)[k]'(by rw [HVL.out]; exact hlt) = L[k].2.2 := by simp
      have hno : okV L[0].2.2.length L[k].2.2 = false → r = false := fun hf => by
        rw [← hr.out]
        exact vall_false_at (L := vsOf L) (k := k) (by rw [HVL.out]; exact hlt) (by rw [hget, hL0]; exact hf)
      have hyes : okV L[0].2.2.length L[k].2.2 = true → Hid (((vsOf L).take (k + 1)).all (okV (len0 (vsOf L))) = true) := fun ht =>
        Lib.hid <| vall_take_succ (L := vsOf L) (k := k) (by rw [HVL.out]; exact hlt) hp.out (by rw [hget, hL0]; exact ht)
      have HNO := Lib.hid hno
      have HYES := Lib.hid hyes
      clear hno hyes hget hL0 hp
      obtain ⟨hxl, _, hxn, _, _⟩ := hx
      generalize L[0] = X0 at *
      generalize L[k] = X at *
      obtain ⟨XA, Xc, xl⟩ := X
      obtain ⟨YA, Yc, yl⟩ := X0
      simp only at *
      generalize hwd : w.drewN n = wd at *
      have WD := Lib.hid hwd
      clear hwd
      by_cases c2 : xl.length < 1
      · have hz := HNO.out (by rw [Bool.eq_false_iff]; intro ht; have := (okV_iff.1 ht).2.1; omega)
        subst hz
        have d1 : decide ((xl.length : Int) < 1) = true := by simp; omega
        clear HYES HNO hr
        go_wp2_with fail
        go_quiet (fail)
        go_wp2_with fail
        go_ret
        exact ⟨rfl, by rw [← WD.out]; exact drewN_ex _ _ _⟩
      · have d1 : decide ((xl.length : Int) < 1) = false := by simp; omega
        by_cases c3 : 64 < xl.length
        · have hz := HNO.out (by rw [Bool.eq_false_iff]; intro ht; have := (okV_iff.1 ht).2.2.1; omega)
          subst hz
          have d2 : decide ((64 : Int) < (xl.length : Int)) = true := by simp; omega
          clear HYES HNO hr
          go_wp2_with fail
          go_quiet (fail)
          go_wp2_with fail
          go_ret
          exact ⟨rfl, by rw [← WD.out]; exact drewN_ex _ _ _⟩
        · have d2 : decide ((64 : Int) < (xl.length : Int)) = false := by simp; omega
          by_cases c1 : xl.length = yl.length
          · have q1 : ((xl.length : Int) != (yl.length : Int)) = false := by simp [c1]
            cases c4 : allR (-1048576) 1048576 xl with
            | true =>
              have H4 := Lib.hid c4
              have HY := HYES.out (okV_iff.2 ⟨c1, by omega, by omega, c4⟩)
              have HQ := Lib.hid (All_quiet XA Xc xl (-1048576) 1048576 wd hxl (by omega) true H4)
              clear c4 HYES HNO c1
              go_wp2_with fail
              go_quiet ((go_at_call 23; exact Calls.quiet_of_same (HQ.out _)))
              go_wp2_with fail
              exact ⟨⟨k + 1, by omega, by go_num, HY, by rw [← WD.out]; exact drewN_ex _ _ _⟩, by simp [intOf]; omega⟩
            | false =>
              have H4 := Lib.hid c4
              have hz := HNO.out (by rw [Bool.eq_false_iff]; intro ht; have := (okV_iff.1 ht).2.2.2; rw [c4] at this; cases this)
              subst hz
              have HQ := Lib.hid (All_quiet XA Xc xl (-1048576) 1048576 wd hxl (by omega) false H4)
              clear c4 HYES HNO c1 hr
              go_wp2_with fail
              go_quiet ((go_at_call 23; exact Calls.quiet_of_same (HQ.out _)))
              go_wp2_with fail
              go_ret
              exact ⟨rfl, by rw [← WD.out]; exact drewN_ex _ _ _⟩
          · have hz := HNO.out (by rw [Bool.eq_false_iff]; intro ht; exact c1 (okV_iff.1 ht).1)
            subst hz
            have q1 : ((xl.length : Int) != (yl.length : Int)) = true := by simp; omega
            clear HYES HNO c1 hr
            go_wp2_with fail
            go_quiet (fail)
            go_wp2_with fail
            go_ret
            exact ⟨rfl, by rw [← WD.out]; exact drewN_ex _ _ _⟩
    · have hz : r = true := by
        have := hp.out
        rw [List.take_of_length_le (by rw [HVL.out]; omega)] at this
        rw [← hr.out]
        exact this
      subst hz
      clear hr
      go_wp2_with fail
      go_ret
      exact ⟨rfl, n, rfl⟩
set_option maxHeartbeats 400000 in
theorem r3Wrong_any (A : Option Addr) (c : Nat) (L : List Inn) (w : World) (hA : LL w A L) (hn : L.length ≤ 9223372036854775807) (r : Int) (hr : Hid (vecR (vsOf L) = r)) :
    Calls Tryd.prog 44 #[.slice A L.length c] w (RetI r w) := by
  have hvl : (vsOf L).length = L.length := by simp
  have hr' := hr.out
  unfold vecR at hr'
  rw [hvl] at hr'
  by_cases h1 : 10000 < L.length
  · rw [if_pos h1] at hr'
    subst hr'
    clear hr hvl
    go_enter Tryd.func44, Tryd.ntmps44
    go_wp2_with fail
    go_ret
    exact ⟨rfl, 0, rfl⟩
  · rw [if_neg h1] at hr'
    clear hvl hr
    cases h2 : vecOk (vsOf L) with
    | true =>
      rw [h2, if_pos rfl] at hr'
      subst hr'
      have H2 := Lib.hid h2
      clear h2
      go_enter Tryd.func44, Tryd.ntmps44
      go_wp2_with fail
      refine (rVectors_any A c L w hA hn true H2).mono ?_
      rintro e w' ⟨rfl, n, rfl⟩
      go_wp2_with fail
      go_ret
      exact ⟨rfl, n, rfl⟩
    | false =>
      rw [h2, if_neg (by simp)] at hr'
      subst hr'
      have H2 := Lib.hid h2
      clear h2
      go_enter Tryd.func44, Tryd.ntmps44
      go_wp2_with fail
      refine (rVectors_any A c L w hA hn false H2).mono ?_
      rintro e w' ⟨rfl, n, rfl⟩
      go_wp2_with fail
      go_ret
      exact ⟨rfl, n, rfl⟩
end Go.Proofs.YtfapmghhmkekaaaDoor
