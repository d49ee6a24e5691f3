/- WaveRestores: the walk -/
import Derived.Test.YtnhkngmdjomfjaaKnown
import Derived.Test.YtnhkngmdjomfjaaRstW
import Derived.Test.YtnhkngmdjomfjaaPEmpLaw
namespace Go.Proofs.Ytnhkngmdjomfjaa
open Go.RowKit Ear

theorem own_none2 {w : World} {base : Nat} {t : TypeId} {A : Option Addr} {l : List Int} {c : Nat} (h : w.ownsRow base t 1 (.slice A l.length c) l.length (ics l)) (hA : A = none) : c = 0 ∧ l = [] := by
  subst hA
  rcases h.2 with ⟨h1, h2⟩ | ⟨g, cap, cur, hv, _⟩
  · injection h1 with _ e2 e3
    exact ⟨e3, List.length_eq_zero_iff.1 e2⟩
  · injection hv with e; exact absurd e (by simp)

theorem Emphasize_any (A : Option Addr) (c : Nat) (l : List Int) (num den : Int) (w : World) (h : Lies w A (ics l)) (hA : A = none → c = 0 ∧ l = []) (hn : l.length ≤ 9223372036854775807) (err : Int) (out : List Int) (ho : Hid (empR l num den = (err, out))) :
    Calls Try.prog 44 #[.slice A l.length c, .int .i64 num, .int .i64 den] w (IntsErr err out w) := by
  have ho' := ho.out
  unfold empR at ho'
  by_cases h1 : rchk l num den = 0
  · have h3 := rchk_ok.1 h1
    rw [if_pos h1] at ho'
    refine Emphasize_ok A c l num den w h hA (Lib.hid h1) h3.1.1 (Lib.hid h3.1.2) h3.2.1 h3.2.2.1 h3.2.2.2.1 h3.2.2.2.2 (vchk (emp l num den)) err out (Lib.hid rfl) (Lib.hid ?_)
    split at ho' <;> rename_i h2
    · rw [if_pos h2]; injection ho' with e1 e2; exact ⟨e1.symm, e2.symm⟩
    · rw [if_neg h2]; injection ho' with e1 e2; exact ⟨e1.symm, e2.symm⟩
  · rw [if_neg h1] at ho'
    injection ho' with e1 e2
    subst e1 e2
    exact Emphasize_chk A c l num den w h hn _ (Lib.hid rfl) (by simp [h1])

theorem Restore_any (A : Option Addr) (c : Nat) (l : List Int) (num den : Int) (w : World) (h : Lies w A (ics l)) (hA : A = none → c = 0 ∧ l = []) (hn : l.length ≤ 9223372036854775807) (err : Int) (out : List Int) (ho : Hid (rstR l num den = (err, out))) :
    Calls Try.prog 45 #[.slice A l.length c, .int .i64 num, .int .i64 den] w (IntsErr err out w) := by
  have ho' := ho.out
  unfold rstR at ho'
  by_cases h1 : rchk l num den = 0
  · have h3 := rchk_ok.1 h1
    rw [if_pos h1] at ho'
    refine Restore_ok A c l num den w h hA (Lib.hid h1) h3.1.1 (Lib.hid h3.1.2) h3.2.1 h3.2.2.1 h3.2.2.2.1 h3.2.2.2.2 err out (Lib.hid ?_)
    split at ho' <;> rename_i h2
    · rw [if_pos h2]; injection ho' with e1 e2; exact ⟨e1.symm, e2.symm⟩
    · rw [if_neg h2]; injection ho' with e1 e2; exact ⟨e1.symm, e2.symm⟩
  · rw [if_neg h1] at ho'
    injection ho' with e1 e2
    subst e1 e2
    exact Restore_chk A c l num den w h hn _ (Lib.hid rfl) (by simp [h1])

set_option maxRecDepth 100000 in
set_option maxHeartbeats 2000000 in
theorem WaveRestores_any (A : Option Addr) (c : Nat) (l : List Int) (num den : Int) (w : World) (h : Lies w A (ics l)) (hA : A = none → c = 0 ∧ l = []) (hn : l.length ≤ 9223372036854775807) :
    Calls Try.prog 14 #[.slice A l.length c, .int .i64 num, .int .i64 den] w fun e w' => e = .returned (.bool true) ∧ Below w.heap.size w w' := by
  have HA := Lib.hid hA
  clear hA
  by_cases hlen : 3000 < l.length
  · go_enter Try.func14, Try.ntmps14
    go_wp2_with fail
    refine (known2_any _).mono ?_
    rintro e w3 ⟨rfl, hb3⟩
    go_wp2_with fail
    go_ret
    exact ⟨rfl, hb3⟩
  obtain ⟨err, out, ho⟩ : ∃ err out, Hid (empR l num den = (err, out)) := ⟨_, _, Lib.hid rfl⟩
  obtain ⟨err2, out2, ho2⟩ : ∃ err out, Hid (rstR l num den = (err, out)) := ⟨_, _, Lib.hid rfl⟩
  have hl1 := empR_len l num den
  have hl2 := rstR_len l num den
  rw [ho.out] at hl1
  rw [ho2.out] at hl2
  simp only at hl1 hl2
  have hE : (err == 0) = true → Hid (rstR out num den = (0, l)) := fun h0 => Lib.hid (by
    have := empR_ok (l := l) (num := num) (den := den) (by rw [ho.out]; simpa using h0)
    rwa [ho.out] at this)
  have hR : (err2 == 0) = true → Hid (empR out2 num den = (0, l)) := fun h0 => Lib.hid (by
    have := rstR_ok (l := l) (num := num) (den := den) (by rw [ho2.out]; simpa using h0)
    rwa [ho2.out] at this)
  go_enter Try.func14, Try.ntmps14
  go_wp2_with fail
  refine (Emphasize_any A c l num den _ h HA.out (by omega) err out ho).mono ?_
  rintro e w1 ⟨A1, c1, rfl, ho1, hb1⟩
  have L1 := Lib.hid (Lies.of_own ho1)
  have N1 := Lib.hid (own_none2 ho1)
  have B1 := Lib.hid hb1
  clear ho1 hb1
  by_cases e0 : (err == 0) = true
  · have hq := hE e0
    clear hE
    go_wp2_with fail
    refine (Restore_any A1 c1 out num den _ L1.out N1.out (by omega) 0 l hq).mono ?_
    rintro e w2 ⟨A2, c2, rfl, ho2', hb2⟩
    have L2 := Lib.hid (Lies.of_own ho2')
    have B2 := Lib.hid (bel_trans B1.out hb2)
    have LW2 := Lib.hid (h.below B2.out)
    clear ho2' hb2
    go_wp2_with fail
    refine (same_bel A2 A c2 c l l _ L2.out LW2.out (by omega) (by omega) true (Lib.hid (by simp))).mono ?_
    rintro e w3 ⟨rfl, hb3⟩
    have BB := Lib.hid (bel_trans B2.out hb3)
    clear hb3
    have LW := Lib.hid (h.below BB.out)
    go_wp2_with fail
    refine (Restore_any A c l num den _ LW.out HA.out (by omega) err2 out2 ho2).mono ?_
    rintro e w4 ⟨A4, c4, rfl, ho4, hb4⟩
    have L4 := Lib.hid (Lies.of_own ho4)
    have N4 := Lib.hid (own_none2 ho4)
    have B4 := Lib.hid (bel_trans BB.out hb4)
    clear ho4 hb4
    by_cases e0 : (err2 == 0) = true
    · have hq := hR e0
      clear hR
      go_wp2_with fail
      refine (Emphasize_any A4 c4 out2 num den _ L4.out N4.out (by omega) 0 l hq).mono ?_
      rintro e w5 ⟨A5, c5, rfl, ho5, hb5⟩
      have L5 := Lib.hid (Lies.of_own ho5)
      have B5 := Lib.hid (bel_trans B4.out hb5)
      have LW5 := Lib.hid (h.below B5.out)
      clear ho5 hb5
      go_wp2_with fail
      refine (same_bel A5 A c5 c l l _ L5.out LW5.out (by omega) (by omega) true (Lib.hid (by simp))).mono ?_
      rintro e w6 ⟨rfl, hb6⟩
      have B6 := Lib.hid (bel_trans B5.out hb6)
      clear hb6
      go_wp2_with fail
      refine (known2_any _).mono ?_
      rintro e w7 ⟨rfl, hb7⟩
      go_wp2_with fail
      go_ret
      exact ⟨rfl, bel_trans B6.out hb7⟩
    · have e0' : (err2 == 0) = false := by simpa using e0
      clear e0 hR
      go_wp2_with fail
      refine (known2_any _).mono ?_
      rintro e w7 ⟨rfl, hb7⟩
      go_wp2_with fail
      go_ret
      exact ⟨rfl, bel_trans B4.out hb7⟩
  · have e0' : (err == 0) = false := by simpa using e0
    clear e0 hE
    have BB := B1
    have LW := Lib.hid (h.below BB.out)
    go_wp2_with fail
    refine (Restore_any A c l num den _ LW.out HA.out (by omega) err2 out2 ho2).mono ?_
    rintro e w4 ⟨A4, c4, rfl, ho4, hb4⟩
    have L4 := Lib.hid (Lies.of_own ho4)
    have N4 := Lib.hid (own_none2 ho4)
    have B4 := Lib.hid (bel_trans BB.out hb4)
    clear ho4 hb4
    by_cases e0 : (err2 == 0) = true
    · have hq := hR e0
      clear hR
      go_wp2_with fail
      refine (Emphasize_any A4 c4 out2 num den _ L4.out N4.out (by omega) 0 l hq).mono ?_
      rintro e w5 ⟨A5, c5, rfl, ho5, hb5⟩
      have L5 := Lib.hid (Lies.of_own ho5)
      have B5 := Lib.hid (bel_trans B4.out hb5)
      have LW5 := Lib.hid (h.below B5.out)
      clear ho5 hb5
      go_wp2_with fail
      refine (same_bel A5 A c5 c l l _ L5.out LW5.out (by omega) (by omega) true (Lib.hid (by simp))).mono ?_
      rintro e w6 ⟨rfl, hb6⟩
      have B6 := Lib.hid (bel_trans B5.out hb6)
      clear hb6
      go_wp2_with fail
      refine (known2_any _).mono ?_
      rintro e w7 ⟨rfl, hb7⟩
      go_wp2_with fail
      go_ret
      exact ⟨rfl, bel_trans B6.out hb7⟩
    · have e0' : (err2 == 0) = false := by simpa using e0
      clear e0 hR
      go_wp2_with fail
      refine (known2_any _).mono ?_
      rintro e w7 ⟨rfl, hb7⟩
      go_wp2_with fail
      go_ret
      exact ⟨rfl, bel_trans B4.out hb7⟩
end Go.Proofs.Ytnhkngmdjomfjaa
