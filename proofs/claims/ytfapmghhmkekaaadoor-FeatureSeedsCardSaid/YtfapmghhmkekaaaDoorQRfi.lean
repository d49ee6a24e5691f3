/- the reference's Fits -/
import Derived.Test.YtfapmghhmkekaaaDoorQDst
namespace Go.Proofs.YtfapmghhmkekaaaDoor
open Go.RowKit Ear

theorem rBook_quiet (A : Option Addr) (c : Nat) (L : List Inn) (w : World) (hA : LL w A L) (hn : L.length ≤ 9223372036854775807) (r : Bool) (hr : Hid (bookOk (vsOf L) = r)) (m : Nat) :
    Calls Tryd.prog 60 #[.slice A L.length c] (w.drewN m) fun e w' => e = .returned (.bool r) ∧ ∃ k, w' = (w.drewN m).drewN k :=
  rBook_any A c L _ (hA.below (below_drewN' _ _)) hn r hr
set_option maxRecDepth 100000 in
set_option maxHeartbeats 2000000 in
theorem rFits_bad (A B : Option Addr) (c d : Nat) (L M : List Inn) (w : World) (hA : LL w A L) (hn : L.length ≤ 9223372036854775807) (r : Int) (hr : Hid (vecR (vsOf L) = r)) (h0 : r ≠ 0) :
    Calls Tryd.prog 51 #[.slice A L.length c, .slice B M.length d] w (RetI r w) := by
  have q0 : (r != 0) = true := by simpa using h0
  go_enter Tryd.func51, Tryd.ntmps51
  go_wp2_with fail
  refine (r3Wrong_any A c L w hA hn r hr).mono ?_
  rintro e w' ⟨rfl, n, rfl⟩
  go_wp2_with fail
  go_ret
  exact ⟨rfl, n, rfl⟩
set_option maxRecDepth 100000 in
set_option maxHeartbeats 2000000 in
theorem rFits_nobook (A B : Option Addr) (c d : Nat) (L M : List Inn) (w : World) (hA : LL w A L) (hB : LL w B M) (hn : L.length ≤ 10000) (hm : M.length ≤ 9223372036854775807) (hr : Hid (vecR (vsOf L) = 0)) (hb : Hid (bookOk (vsOf M) = false)) :
    Calls Tryd.prog 51 #[.slice A L.length c, .slice B M.length d] w (RetI 2 w) := by
  go_enter Tryd.func51, Tryd.ntmps51
  go_wp2_with fail
  refine (r3Wrong_any A c L w hA (by omega) 0 hr).mono ?_
  rintro e w1 ⟨rfl, n, hw1⟩
  have HQ := Lib.hid (rBook_quiet B d M w1 (by rw [hw1]; exact hB.below (below_drewN' _ _)) (by omega) false hb)
  have W1 := Lib.hid hw1
  clear hw1
  go_wp2_with fail
  go_quiet ((go_at_call 60; exact Calls.quiet_of (HQ.out _)))
  go_wp2_with fail
  go_ret
  exact ⟨rfl, by rw [W1.out]; exact drewN_ex _ _ _⟩
set_option maxRecDepth 100000 in
set_option maxHeartbeats 2000000 in
theorem rFits_book (A B : Option Addr) (c d : Nat) (L M : List Inn) (w : World) (hA : LL w A L) (hB : LL w B M) (hn : L.length ≤ 10000) (hm : M.length ≤ 10000) (hr : Hid (vecR (vsOf L) = 0)) (hb : Hid (bookOk (vsOf M) = true)) (r : Int) (ho : Hid ((if L.length = 0 ∨ len0 (vsOf L) = len0 (vsOf M) then 0 else 2) = r)) :
    Calls Tryd.prog 51 #[.slice A L.length c, .slice B M.length d] w (RetI r w) := by
  have hm1 : 0 < M.length := by
    have := bookOk_iff.1 hb.out
    simp at this
    omega
  go_enter Tryd.func51, Tryd.ntmps51
  go_wp2_with fail
  refine (r3Wrong_any A c L w hA (by omega) 0 hr).mono ?_
  rintro e w1 ⟨rfl, n, hw1⟩
  have LA : LL w1 A L := by rw [hw1]; exact hA.below (below_drewN' _ _)
  have LB : LL w1 B M := by rw [hw1]; exact hB.below (below_drewN' _ _)
  have HQ := Lib.hid (rBook_quiet B d M w1 LB (by omega) true hb)
  have W1 := Lib.hid hw1
  clear hw1
  have ho' := ho.out
  clear ho
  by_cases h0 : 0 < L.length
  · have e1 := len0_at h0
    have e2 := len0_at hm1
    rw [e1, e2] at ho'
    obtain ⟨b1, o1, rfl, hb1, hc1⟩ := LA.lies.lat h0
    obtain ⟨b2, o2, rfl, hb2, hc2⟩ := LB.lies.lat hm1
    rw [Nat.add_zero] at hc1 hc2
    clear e1 e2 LA LB
    generalize L[0] = X at *
    generalize M[0] = Y at *
    obtain ⟨XA, Xc, xl⟩ := X
    obtain ⟨YA, Yc, yl⟩ := Y
    simp only at *
    by_cases hl : xl.length = yl.length
    · rw [if_pos (.inr hl)] at ho'
      subst ho'
      have q1 : ((xl.length : Int) != (yl.length : Int)) = false := by rw [hl]; simp
      clear hl
      go_wp2_with fail
      go_quiet ((go_at_call 60; exact Calls.quiet_of (HQ.out _)))
      go_wp2_with fail
      go_ret
      exact ⟨rfl, by rw [W1.out]; exact drewN_ex _ _ _⟩
    · rw [if_neg (by omega)] at ho'
      subst ho'
      have q1 : ((xl.length : Int) != (yl.length : Int)) = true := by simp; omega
      clear hl
      go_wp2_with fail
      go_quiet ((go_at_call 60; exact Calls.quiet_of (HQ.out _)))
      go_wp2_with fail
      go_ret
      exact ⟨rfl, by rw [W1.out]; exact drewN_ex _ _ _⟩
  · rw [if_pos (.inl (by omega))] at ho'
    subst ho'
    clear LA LB
    go_wp2_with fail
    go_quiet ((go_at_call 60; exact Calls.quiet_of (HQ.out _)))
    go_wp2_with fail
    go_ret
    exact ⟨rfl, by rw [W1.out]; exact drewN_ex _ _ _⟩
end Go.Proofs.YtfapmghhmkekaaaDoor
