/- WaveEmphasizes: the walk -/
import Derived.Test.YtnhkngmdjomfjaaLRst
import Derived.Test.YtnhkngmdjomfjaaREmp
import Derived.Test.YtnhkngmdjomfjaaMeas2
namespace Go.Proofs.Ytnhkngmdjomfjaa
open Go.RowKit Ear

theorem emp_vls {l : List Int} {num den : Int} : vls (emp l num den) = true ↔ ∀ k, k < l.length → inR (-2147483647) 2147483647 (empAt l num den k) = true := by
  unfold vls allR emp
  rw [List.all_eq_true]
  constructor
  · intro h k hk
    exact h _ (List.mem_map.2 ⟨k, List.mem_range.2 hk, rfl⟩)
  · intro h x hx
    obtain ⟨k, hk, rfl⟩ := List.mem_map.1 hx
    exact h k (List.mem_range.1 hk)

theorem rEmphasis_fore_any (A : Option Addr) (c : Nat) (l : List Int) (num den : Int) (w : World) (h : Lies w A (ics l)) (hn : l.length ≤ 9223372036854775807) (err : Int) (out : List Int) (ho : Hid (empR l num den = (err, out))) :
    Calls Try.prog 46 #[.slice A l.length c, .int .i64 num, .int .i64 den, .bool false] w (IntsErr err out w) := by
  have ho' := ho.out
  unfold empR at ho'
  by_cases h1 : rchk l num den = 0
  · have h3 := rchk_ok.1 h1
    rw [if_pos h1] at ho'
    refine rEmphasis_fore A c l num den w h h3.1.1 (Lib.hid h3.1.2) h3.2.1 h3.2.2.1 h3.2.2.2.1 h3.2.2.2.2 err out (Lib.hid ?_)
    have hq : vchk (emp l num den) = 0 ↔ ∀ k, k < l.length → inR (-2147483647) 2147483647 (empAt l num den k) = true := by
      rw [vchk_ok, emp_vls, emp_length]
      exact ⟨fun h => h.2, fun h => ⟨h3.1.1, h⟩⟩
    split at ho' <;> rename_i h2
    · rw [if_pos (hq.1 h2)]; injection ho' with e1 e2; exact ⟨e1.symm, e2.symm⟩
    · rw [if_neg (fun h => h2 (hq.2 h))]; injection ho' with e1 e2; exact ⟨e1.symm, e2.symm⟩
  · rw [if_neg h1] at ho'
    injection ho' with e1 e2
    subst e1 e2
    exact rEmphasis_chk A c l num den false w h hn _ (Lib.hid rfl) (by simp [h1])

theorem rEmphasis_back_any (A : Option Addr) (c : Nat) (l : List Int) (num den : Int) (w : World) (h : Lies w A (ics l)) (hn : l.length ≤ 9223372036854775807) (err : Int) (out : List Int) (ho : Hid (rstR l num den = (err, out))) :
    Calls Try.prog 46 #[.slice A l.length c, .int .i64 num, .int .i64 den, .bool true] w (IntsErr err out w) := by
  have ho' := ho.out
  unfold rstR at ho'
  by_cases h1 : rchk l num den = 0
  · have h3 := rchk_ok.1 h1
    rw [if_pos h1] at ho'
    refine rEmphasis_back A c l num den w h h3.1.1 (Lib.hid h3.1.2) h3.2.1 h3.2.2.1 h3.2.2.2.1 h3.2.2.2.2 err out (Lib.hid ?_)
    split at ho' <;> rename_i h2
    · rw [if_pos (rst_vls.1 h2)]; injection ho' with e1 e2; exact ⟨e1.symm, e2.symm⟩
    · rw [if_neg (fun h => h2 (rst_vls.2 h))]; injection ho' with e1 e2; exact ⟨e1.symm, e2.symm⟩
  · rw [if_neg h1] at ho'
    injection ho' with e1 e2
    subst e1 e2
    exact rEmphasis_chk A c l num den true w h hn _ (Lib.hid rfl) (by simp [h1])

set_option maxRecDepth 100000 in
set_option maxHeartbeats 2000000 in
theorem WaveEmphasizes_any (A : Option Addr) (c : Nat) (l : List Int) (num den : Int) (w : World) (h : Lies w A (ics l)) (hA : A = none → c = 0 ∧ l = []) (hn : l.length ≤ 9223372036854775807) :
    Calls Try.prog 13 #[.slice A l.length c, .int .i64 num, .int .i64 den] w fun e w' => e = .returned (.bool true) ∧ Below w.heap.size w w' := by
  have HA := Lib.hid hA
  clear hA
  cases hb0 : decide ((l.length : Int) ≤ 3000 ∨ (200000 < (l.length : Int) ∧ (l.length : Int) < 250000)) with
  | false =>
    have hb := Lib.hid hb0
    clear hb0
    go_enter Try.func13, Try.ntmps13
    go_wp2_with fail
    refine (short_any _ _ false hb).mono ?_
    rintro e w0 ⟨rfl, rfl⟩
    go_wp2_with fail
    refine (known2_any _).mono ?_
    rintro e w7 ⟨rfl, hb7⟩
    go_wp2_with fail
    go_ret
    exact ⟨rfl, hb7⟩
  | true =>
    have hlen : l.length ≤ 250000 := by simp at hb0; omega
    have hb := Lib.hid hb0
    clear hb0
    obtain ⟨err, out, ho⟩ : ∃ err out, Hid (empR l num den = (err, out)) := ⟨_, _, Lib.hid rfl⟩
    obtain ⟨err2, out2, ho2⟩ : ∃ err out, Hid (rstR l num den = (err, out)) := ⟨_, _, Lib.hid rfl⟩
    have hl1 := empR_len l num den
    have hl2 := rstR_len l num den
    rw [ho.out] at hl1
    rw [ho2.out] at hl2
    simp only at hl1 hl2
    go_enter Try.func13, Try.ntmps13
    go_wp2_with fail
    refine (short_any _ _ true hb).mono ?_
    rintro e w0 ⟨rfl, rfl⟩
    go_wp2_with fail
    refine (Emphasize_any A c l num den _ h HA.out (by omega) err out ho).mono ?_
    rintro e w1 ⟨A1, c1, rfl, ho1, hb1⟩
    have L1 := Lib.hid (Lies.of_own ho1)
    have B1 := Lib.hid hb1
    have LW1 := Lib.hid (h.below B1.out)
    clear ho1 hb1
    go_wp2_with fail
    refine (Restore_any A c l num den _ LW1.out HA.out (by omega) err2 out2 ho2).mono ?_
    rintro e w2 ⟨A2, c2, rfl, ho2', hb2⟩
    have L1' := Lib.hid (L1.out.below hb2)
    have L2 := Lib.hid (Lies.of_own ho2')
    have B2 := Lib.hid (bel_trans B1.out hb2)
    have LW2 := Lib.hid (h.below B2.out)
    clear ho2' hb2 L1 B1 LW1
    go_wp2_with fail
    refine (rEmphasis_fore_any A c l num den _ LW2.out (by omega) err out ho).mono ?_
    rintro e w3 ⟨A3, c3, rfl, ho3, hb3⟩
    have L1 := Lib.hid (L1'.out.below hb3)
    have L2' := Lib.hid (L2.out.below hb3)
    have L3 := Lib.hid (Lies.of_own ho3)
    have B3 := Lib.hid (bel_trans B2.out hb3)
    have LW3 := Lib.hid (h.below B3.out)
    clear ho3 hb3 L1' L2 B2 LW2
    go_wp2_with fail
    refine (rEmphasis_back_any A c l num den _ LW3.out (by omega) err2 out2 ho2).mono ?_
    rintro e w4 ⟨A4, c4, rfl, ho4, hb4⟩
    have L1' := Lib.hid (L1.out.below hb4)
    have L2 := Lib.hid (L2'.out.below hb4)
    have L3' := Lib.hid (L3.out.below hb4)
    have L4 := Lib.hid (Lies.of_own ho4)
    have B4 := Lib.hid (bel_trans B3.out hb4)
    clear ho4 hb4 L1 L2' L3 B3 LW3
    go_wp2_with fail
    refine (same_bel A1 A3 c1 c3 out out _ L1'.out L3'.out (by omega) (by omega) true (Lib.hid (by simp))).mono ?_
    rintro e w5 ⟨rfl, hb5⟩
    have L2' := Lib.hid (L2.out.below hb5)
    have L4' := Lib.hid (L4.out.below hb5)
    have B5 := Lib.hid (bel_trans B4.out hb5)
    clear hb5 L1' L2 L3' L4 B4
    go_wp2_with fail
    refine (same_bel A2 A4 c2 c4 out2 out2 _ L2'.out L4'.out (by omega) (by omega) true (Lib.hid (by simp))).mono ?_
    rintro e w6 ⟨rfl, hb6⟩
    have B6 := Lib.hid (bel_trans B5.out hb6)
    clear hb6 L2' L4' B5
    go_wp2_with fail
    refine (known2_any _).mono ?_
    rintro e w7 ⟨rfl, hb7⟩
    go_wp2_with fail
    go_ret
    exact ⟨rfl, bel_trans B6.out hb7⟩
end Go.Proofs.Ytnhkngmdjomfjaa
