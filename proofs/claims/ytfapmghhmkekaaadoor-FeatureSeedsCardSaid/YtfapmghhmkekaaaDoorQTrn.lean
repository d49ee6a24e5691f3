/- Train -/
import Derived.Test.YtfapmghhmkekaaaDoorEqL
import Derived.Test.YtfapmghhmkekaaaDoorMc
namespace Go.Proofs.YtfapmghhmkekaaaDoor
open Go.RowKit Ear

/-- the post of Train -/
def TrnErr (err n : Int) (out : List (List Int)) (w : World) (e : Ending) (w' : World) : Prop :=
  ∃ A c L, e = .returned (.tuple #[.slice A (L : List Inn).length c, .int .i64 n, .int .i64 err]) ∧ Hid (vsOf L = out) ∧ LLo w' w.heap.size A c L ∧ Below w.heap.size w w'
/-- what Train answers -/
def trnR (vs bs : List (List Int)) (r : Int) : Int × Int × List (List Int) := if fitR vs bs = 0 then (if 0 ≤ r ∧ r ≤ 1000 then (0, ((trn vs r.toNat bs).2 : Int), (trn vs r.toNat bs).1) else (2, 0, [])) else (fitR vs bs, 0, [])
theorem trn_len (vs : List (List Int)) : ∀ r b, (trn vs r b).1.length = b.length := by
  intro r
  induction r with
  | zero => intro b; rfl
  | succ r ih =>
    intro b
    by_cases h : impL vs b = b
    · rw [trn_fix h]
    · rw [trn_go h]; simp only []; rw [ih, impL_length]
/-- training, some rounds being done -/
def TrnAt (vs bs S : List (List Int)) (r n : Nat) : Prop := trn vs r bs = ((trn vs (r - n) S).1, (trn vs (r - n) S).2 + n)
theorem TrnAt.start (vs bs : List (List Int)) (r : Nat) : TrnAt vs bs bs r 0 := rfl
theorem TrnAt.next {vs bs S : List (List Int)} {r n : Nat} (h : TrnAt vs bs S r n) (hn : n < r) (hS : ¬ impL vs S = S) : TrnAt vs bs (impL vs S) r (n + 1) := by
  unfold TrnAt at *
  obtain ⟨q, hq⟩ : ∃ q, r - n = q + 1 := ⟨r - n - 1, by omega⟩
  rw [h, hq, trn_go hS, show r - (n + 1) = q by omega]
  simp only []
  rw [show ((trn vs q (impL vs S)).2 + 1 + n) = (trn vs q (impL vs S)).2 + (n + 1) by omega]
theorem TrnAt.stop {vs bs S : List (List Int)} {r n : Nat} (h : TrnAt vs bs S r n) (hS : impL vs S = S) : trn vs r bs = (S, n) := by
  unfold TrnAt at h
  rw [h, trn_fix hS]; simp
theorem TrnAt.done {vs bs S : List (List Int)} {r : Nat} (h : TrnAt vs bs S r r) : trn vs r bs = (S, r) := by
  unfold TrnAt at h
  rw [h, Nat.sub_self]; simp [trn]
set_option maxRecDepth 100000 in
set_option maxHeartbeats 2000000 in
theorem Train_ok (A B : Option Addr) (c d : Nat) (L M : List Inn) (r : Nat) (w : World) (hA : LL w A L) (hB : LL w B M) (H0 : Hid (fitR (vsOf L) (vsOf M) = 0)) (hr : r ≤ 1000) :
    Calls Tryd.prog 65 #[.slice A L.length c, .slice B M.length d, .int .i64 r] w (TrnErr 0 (trn (vsOf L) r (vsOf M)).2 (trn (vsOf L) r (vsOf M)).1 w) := by
  have HF := Lib.hid (fit_of H0.out)
  have hl : L.length ≤ 10000 := by have := (fitR_ok.1 H0.out).1; simpa using this
  have hm : M.length ≤ 256 := by have := (bookOk_iff.1 HF.out.b).2.1; simpa using this
  have HIN : Hid (∀ x ∈ M, x.2.2.length ≤ 1000000) := Lib.hid fun x hx => by
    have := (vecOk_mem (bookOk_iff.1 HF.out.b).2.2 (List.mem_map_of_mem (f := fun x : Inn => x.2.2) hx)).2.2.1
    omega
  go_enter Tryd.func65, Tryd.ntmps65
  go_wp2_with fail
  refine (fits_any A B c d L M w hA hB 0 H0).mono ?_
  rintro e w1 ⟨rfl, hb1⟩
  have LA1 := Lib.hid (hA.below hb1)
  have LB1 := Lib.hid (hB.below hb1)
  have B1 := Lib.hid hb1
  clear hb1
  go_wp2_with fail
  refine (copied_any B d M w1 LB1.out (by omega) HIN).mono ?_
  rintro e w2 ⟨A2, c2, O2, rfl, hv2, hl2, hb2⟩
  have LA2 := Lib.hid (LA1.out.below hb2)
  have B2 := Lib.hid (B1.out.trans (hb2.mono B1.out.size))
  have LO2 := Lib.hid (hl2.le B1.out.size)
  have N2 : Hid (O2.length = M.length) := Lib.hid (by have := congrArg List.length hv2.out; simpa using this)
  clear hb2 hl2 LA1 LB1 B1
  go_wp2_with fail
  go_loopw [10, 11, 12, 28] (fun s _ _ i wr => ∃ n : Nat, n ≤ r ∧ i = .int .i64 n ∧ ∃ A' c' O, s = .slice A' (O : List Inn).length c' ∧ LLo wr w.heap.size A' c' O ∧ Hid (O.length = M.length) ∧ Hid (Fit (vsOf L) (vsOf O)) ∧ Hid (TrnAt (vsOf L) (vsOf M) (vsOf O) r n) ∧ Below w.heap.size w wr) (fun _ _ _ i _ => r - (intOf i).toNat)
  case atStart => exact ⟨0, by omega, rfl, A2, c2, O2, rfl, LO2.out, N2, Lib.hid (by rw [hv2.out]; exact HF.out), Lib.hid (by rw [hv2.out]; exact TrnAt.start _ _ _), B2.out⟩
  case round =>
    obtain ⟨n, hn, rfl, A', c', O, rfl, r1, r2, r3, r4, r5⟩ := hrel
    by_cases hlt : n < r
    · have R1 := Lib.hid r1
      have R5 := Lib.hid r5
      have hol : O.length ≤ 256 := by rw [r2.out]; exact hm
      clear r1 r5
      go_wp2_with fail
      refine (improved_any A A' c c' L O wr (hA.below R5.out) R1.out.ll r3 hl).mono ?_
      rintro e w3 ⟨A3, c3, O3, rfl, hv3, hl3, hb3⟩
      have B3 := Lib.hid (R5.out.trans (hb3.mono R5.out.size))
      have L3 := Lib.hid (hl3.le R5.out.size)
      have R3 := Lib.hid (R1.out.below hb3)
      have N3 : Hid (O3.length = M.length) := Lib.hid (by
        have := congrArg List.length hv3.out
        rw [impL_length] at this
        simp at this
        rw [this, r2.out])
      clear hb3 hl3 R1 R5
      have h3l : O3.length ≤ 256 := by rw [N3.out]; exact hm
      cases hd : decide (vsOf O3 = vsOf O) with
      | true =>
        have HD := Lib.hid hd
        have E : Hid (trn (vsOf L) r (vsOf M) = (vsOf O, n)) := Lib.hid (r4.out.stop (by rw [← hv3.out]; exact of_decide_eq_true hd))
        clear hd
        go_wp2_with fail
        refine (EqualFunc_any A3 A' c3 c' O3 O w3 L3.out.ll R3.out.ll (by omega) true HD).mono ?_
        rintro e w4 ⟨rfl, n4, rfl⟩
        go_wp2_with fail
        go_ret3
        exact ⟨A', c', O, by rw [E.out]; rfl, Lib.hid (by rw [E.out]), R3.out.drewN n4, B3.out.trans (below_drewN' _ _)⟩
      | false =>
        have HD := Lib.hid hd
        have E : Hid (TrnAt (vsOf L) (vsOf M) (vsOf O3) r (n + 1)) := Lib.hid (by
          rw [hv3.out]
          exact r4.out.next hlt (by rw [← hv3.out]; exact of_decide_eq_false hd))
        have F3 : Hid (Fit (vsOf L) (vsOf O3)) := Lib.hid (by rw [hv3.out]; exact r3.out.improve)
        clear hd
        go_wp2_with fail
        refine (EqualFunc_any A3 A' c3 c' O3 O w3 L3.out.ll R3.out.ll (by omega) false HD).mono ?_
        rintro e w4 ⟨rfl, n4, rfl⟩
        go_wp2_with fail
        exact ⟨⟨n + 1, by omega, by go_num, A3, c3, O3, rfl, L3.out.drewN n4, N3, F3, E, B3.out.trans (below_drewN' _ _)⟩, by simp [intOf]; omega⟩
    · obtain rfl : n = r := by omega
      have E : Hid (trn (vsOf L) n (vsOf M) = (vsOf O, n)) := Lib.hid r4.out.done
      have R1 := Lib.hid r1
      have R5 := Lib.hid r5
      clear r1 r5
      go_wp2_with fail
      go_ret3
      exact ⟨A', c', O, by rw [E.out]; rfl, Lib.hid (by rw [E.out]), R1.out, R5.out⟩
set_option maxRecDepth 100000 in
set_option maxHeartbeats 1000000 in
theorem Train_rounds (A B : Option Addr) (c d : Nat) (L M : List Inn) (r : Int) (w : World) (hA : LL w A L) (hB : LL w B M) (H0 : Hid (fitR (vsOf L) (vsOf M) = 0)) (hr : r < 0 ∨ 1000 < r) :
    Calls Tryd.prog 65 #[.slice A L.length c, .slice B M.length d, .int .i64 r] w (TrnErr 2 0 [] w) := by
  rcases hr with hr | hr
  all_goals
    go_enter Tryd.func65, Tryd.ntmps65
    go_wp2_with fail
    refine (fits_any A B c d L M w hA hB 0 H0).mono ?_
    rintro e w1 ⟨rfl, hb1⟩
    go_wp2_with fail
    go_ret3
    exact ⟨none, 0, [], rfl, Lib.hid rfl, LLo.nil _ _, hb1⟩
set_option maxRecDepth 100000 in
set_option maxHeartbeats 1000000 in
theorem Train_any (A B : Option Addr) (c d : Nat) (L M : List Inn) (r : Int) (w : World) (hA : LL w A L) (hB : LL w B M) (err n : Int) (out : List (List Int)) (ho : Hid (trnR (vsOf L) (vsOf M) r = (err, n, out))) :
    Calls Tryd.prog 65 #[.slice A L.length c, .slice B M.length d, .int .i64 r] w (TrnErr err n out w) := by
  have ho' := ho.out
  unfold trnR at ho'
  by_cases h0 : fitR (vsOf L) (vsOf M) = 0
  · rw [if_pos h0] at ho'
    by_cases hr : 0 ≤ r ∧ r ≤ 1000
    · rw [if_pos hr] at ho'
      injection ho' with e1 e2
      injection e2 with e2 e3
      subst e1 e2 e3
      have h := Train_ok A B c d L M r.toNat w hA hB (Lib.hid h0) (by omega)
      rw [show ((r.toNat : Nat) : Int) = r by omega] at h
      exact h
    · rw [if_neg hr] at ho'
      injection ho' with e1 e2
      injection e2 with e2 e3
      subst e1 e2 e3
      exact Train_rounds A B c d L M r w hA hB (Lib.hid h0) (by omega)
  · rw [if_neg h0] at ho'
    injection ho' with e1 e2
    injection e2 with e2 e3
    subst e2 e3
    have hne : (err != 0) = true := by rw [← e1]; simpa using h0
    have H0 := Lib.hid e1
    clear h0 e1 ho
    go_enter Tryd.func65, Tryd.ntmps65
    go_wp2_with fail
    refine (fits_any A B c d L M w hA hB err H0).mono ?_
    rintro e w1 ⟨rfl, hb1⟩
    go_wp2_with fail
    go_ret3
    exact ⟨none, 0, [], rfl, Lib.hid rfl, LLo.nil _ _, hb1⟩
end Go.Proofs.YtfapmghhmkekaaaDoor
