/- FeatureTable: the walk -/
import Derived.Test.YtfapmghhmkekaaaDoorMc
import Derived.Test.YtfapmghhmkekaaaDoorMb
namespace Go.Proofs.YtfapmghhmkekaaaDoor
open Go.RowKit Ear

set_option maxRecDepth 100000 in
set_option maxHeartbeats 1000000 in
theorem lcos_step (m : Nat) (hm : m ≤ 128) (j : Int) (hj : (j = (m : Int) ∧ j ≤ 128) ∨ (128 < j ∧ 256 - j = (m : Int))) (w : World) (rec : ∀ q : Nat, q ≤ 128 → (64 < m → q = 128 - m) → (32 < m → m < 64 → q = 64 - m) → (m ≤ 32 → q = 2 * m) → m ≠ 0 → m ≠ 64 → Calls Tryd.prog 35 #[.int .i64 q] w (Ret2 (lcAt q).1 (lcAt q).2 w)) :
    Calls Tryd.prog 35 #[.int .i64 j] w (Ret2 (lcAt m).1 (lcAt m).2 w) := by
  rcases hj with ⟨rfl, -⟩ | ⟨hj, e256⟩
  all_goals
    by_cases h64 : 64 < m
    · have hr := Lib.hid (rec (128 - m) (by omega) (fun _ => rfl) (by omega) (by omega) (by omega) (by omega))
      have e : (128 : Int) - (m : Int) = ((128 - m : Nat) : Int) := by omega
      have hb := lcT_bd (128 - m) (by omega)
      have HR : Hid (lcAt m = (-(lcAt (128 - m)).2, -(lcAt (128 - m)).1)) := Lib.hid (lc_high m (by omega) (by omega))
      clear rec
      generalize 128 - m = q at *
      generalize lcAt q = p at *
      obtain ⟨lo, hi⟩ := p
      simp only at hb
      go_enter Tryd.func35, Tryd.ntmps35
      go_wp2_with fail
      refine (hr.out).mono ?_
      clear e
      rintro e w' ⟨rfl, rfl⟩
      simp only
      go_wp2_with fail
      go_ret2
      exact ⟨by rw [HR.out]; rfl, rfl⟩
    · by_cases h0 : m = 0
      · subst h0
        have HR : Hid (lcAt 0 = (1073741824, 1073741824)) := Lib.hid lc_zero
        clear rec
        go_enter Tryd.func35, Tryd.ntmps35
        go_wp2_with fail
        go_ret2
        exact ⟨by rw [HR.out]; rfl, rfl⟩
      · have q0 : ((m : Int) == 0) = false := by simp; omega
        by_cases h1 : m = 64
        · subst h1
          have HR : Hid (lcAt 64 = (0, 0)) := Lib.hid lc_64
          clear rec q0
          go_enter Tryd.func35, Tryd.ntmps35
          go_wp2_with fail
          go_ret2
          exact ⟨by rw [HR.out]; rfl, rfl⟩
        · have q1 : ((m : Int) == 64) = false := by simp; omega
          by_cases h32 : 32 < m
          · have hr := Lib.hid (rec (64 - m) (by omega) (by omega) (fun _ _ => rfl) (by omega) (by omega) (by omega))
            have e : (64 : Int) - (m : Int) = ((64 - m : Nat) : Int) := by omega
            have hb := lcT_bd (64 - m) (by omega)
            have HR : Hid (lcAt m = (rt (1152921504606846976 - (lcAt (64 - m)).2 * (lcAt (64 - m)).2), rt (1152921504606846976 - (lcAt (64 - m)).1 * (lcAt (64 - m)).1) + 1)) := Lib.hid (lc_mid m (by omega) (by omega))
            have hbm := lcT_bd m (by omega)
            have HBM := Lib.hid hbm
            clear rec h0 h1 hbm
            generalize 64 - m = q at *
            generalize lcAt q = p at *
            obtain ⟨lo, hi⟩ := p
            simp only at hb HR
            have m1 := mul_abs (A := 1073741825) (B := 1073741825) hb.2.2.1 hb.2.2.2 hb.2.2.1 hb.2.2.2
            have m0 := mul_abs (A := 1073741825) (B := 1073741825) hb.1 hb.2.1 hb.1 hb.2.1
            have p1 : IntKind.i64.wrap (hi * hi) = hi * hi := IntWalk.i64_in _ (by omega)
            have p0 : IntKind.i64.wrap (lo * lo) = lo * lo := IntWalk.i64_in _ (by omega)
            have p3 : IntKind.i64.wrap (1152921504606846976 - hi * hi) = 1152921504606846976 - hi * hi := IntWalk.i64_in _ (by omega)
            have p2 : IntKind.i64.wrap (1152921504606846976 - lo * lo) = 1152921504606846976 - lo * lo := IntWalk.i64_in _ (by omega)
            go_enter Tryd.func35, Tryd.ntmps35
            go_wp2_with fail
            refine (hr.out).mono ?_
            clear e
            rintro e w' ⟨rfl, rfl⟩
            simp only
            go_wp2_with fail
            refine (root_any _ _).mono ?_
            rintro e w' ⟨rfl, rfl⟩
            go_wp2_with fail
            refine (root_any _ _).mono ?_
            rintro e w' ⟨rfl, rfl⟩
            have hx := HBM.out
            have hr2 := HR.out
            clear p0 p1 p2 p3 m0 m1 HR
            generalize rt (1152921504606846976 - hi * hi) = x at *
            generalize rt (1152921504606846976 - lo * lo) = y at *
            rw [hr2] at hx
            have HR := Lib.hid hr2
            clear hr2
            simp only at hx
            go_wp2_with fail
            go_ret2
            exact ⟨by rw [HR.out]; rfl, rfl⟩
          · have hr := Lib.hid (rec (2 * m) (by omega) (by omega) (by omega) (fun _ => rfl) (by omega) (by omega))
            have e : (2 : Int) * (m : Int) = ((2 * m : Nat) : Int) := by omega
            have hb := lcT_bd (2 * m) (by omega)
            have HR : Hid (lcAt m = (rt ((1073741824 + (lcAt (2 * m)).1) * 536870912), rt ((1073741824 + (lcAt (2 * m)).2) * 536870912) + 1)) := Lib.hid (lc_low m (by omega) (by omega))
            have hbm := lcT_bd m (by omega)
            have HBM := Lib.hid hbm
            clear rec h0 h1 hbm
            generalize 2 * m = q at *
            generalize lcAt q = p at *
            obtain ⟨lo, hi⟩ := p
            simp only at hb HR
            go_enter Tryd.func35, Tryd.ntmps35
            go_wp2_with fail
            refine (hr.out).mono ?_
            clear e
            rintro e w' ⟨rfl, rfl⟩
            simp only
            go_wp2_with fail
            refine (root_any _ _).mono ?_
            rintro e w' ⟨rfl, rfl⟩
            go_wp2_with fail
            refine (root_any _ _).mono ?_
            rintro e w' ⟨rfl, rfl⟩
            have hx := HBM.out
            have hr2 := HR.out
            clear HR
            generalize rt ((1073741824 + lo) * 536870912) = x at *
            generalize rt ((1073741824 + hi) * 536870912) = y at *
            rw [hr2] at hx
            have HR := Lib.hid hr2
            clear hr2
            simp only at hx
            go_wp2_with fail
            go_ret2
            exact ⟨by rw [HR.out]; rfl, rfl⟩
/-- how deep the enclosure goes: all that a number up to 128 comes to -/
def depth : Nat → Nat → Nat
  | 0, _ => 0
  | f + 1, m => if 64 < m then 1 + depth f (128 - m) else if m = 0 then 0 else if m = 64 then 0 else if 32 < m then 1 + depth f (64 - m) else 1 + depth f (2 * m)
theorem lcos_low : ∀ (f m : Nat), m ≤ 128 → depth (f + 1) m ≤ f → ∀ w : World, Calls Tryd.prog 35 #[.int .i64 m] w (Ret2 (lcAt m).1 (lcAt m).2 w) := by
  intro f
  induction f with
  | zero =>
    intro m hm hd w
    refine lcos_step m hm m (.inl ⟨rfl, by omega⟩) w fun q hq h1 h2 h3 h4 h5 => ?_
    exfalso
    unfold depth at hd
    split at hd
    · omega
    · try rw [if_neg h4, if_neg h5] at hd
      split at hd <;> omega
  | succ f ih =>
    intro m hm hd w
    refine lcos_step m hm m (.inl ⟨rfl, by omega⟩) w fun q hq h1 h2 h3 h4 h5 => ih q hq ?_ w
    unfold depth at hd
    split at hd
    · rename_i h; rw [h1 h]; omega
    · try rw [if_neg h4, if_neg h5] at hd
      split at hd
      · rename_i h; rw [h2 h (by omega)]; omega
      · rename_i h; rw [h3 (by omega)]; omega
theorem depth_all : ∀ m, m < 129 → depth 21 m ≤ 20 := by decide +kernel
theorem lcos_small (m : Nat) (hm : m ≤ 128) (w : World) : Calls Tryd.prog 35 #[.int .i64 m] w (Ret2 (lcAt m).1 (lcAt m).2 w) := lcos_low 20 m hm (depth_all m (by omega)) w
theorem lcos_great (m : Nat) (j : Int) (h1 : 128 < j) (h2 : 256 - j = (m : Int)) (w : World) : Calls Tryd.prog 35 #[.int .i64 j] w (Ret2 (lcAt m).1 (lcAt m).2 w) :=
  lcos_step m (by omega) j (.inr ⟨h1, h2⟩) w fun q hq _ _ _ _ _ => lcos_small q hq w
theorem lcos_any (m : Nat) (hm : m < 256) (w : World) : ∃ p : Int × Int, (2 * cosM m - 1) * 32768 ≤ p.2 ∧ p.1 ≤ (2 * cosM m + 1) * 32768 ∧ Calls Tryd.prog 35 #[.int .i64 m] w (Ret2 p.1 p.2 w) := by
  by_cases h : m ≤ 128
  · have := lc_best m (by omega)
    exact ⟨lcAt m, this.1, this.2, lcos_small m h w⟩
  · have h1 := lc_best (256 - m) (by omega)
    have h2 : cosM (256 - m) = cosM m := by
      rcases cosM_even m (by omega) with h3 | h3 | h3
      · exact h3
      · omega
      · omega
    rw [h2] at h1
    exact ⟨lcAt (256 - m), h1.1, h1.2, lcos_great (256 - m) m (by omega) (by omega) w⟩

set_option maxRecDepth 100000 in
set_option maxHeartbeats 2000000 in
theorem FeatureTable_any (j : Int) (w : World) (hj : j ≤ 9223372036854775807) (hC : CosOk w) (hk : Kn) : Calls Tryd.prog 9 #[.int .i64 j] w (RetB true w) := by
  by_cases hn : j < 0
  · go_enter Tryd.func9, Tryd.ntmps9
    go_wp2_with fail
    refine (Cosine_neg j w hn).mono ?_
    rintro e w' ⟨rfl, rfl⟩
    go_wp2_with fail
    refine (hk _ hC).mono ?_
    rintro e w1 ⟨rfl, hb1⟩
    go_wp2_with fail
    go_ret
    exact ⟨rfl, hb1⟩
  · obtain ⟨k, rfl⟩ := Int.eq_ofNat_of_zero_le (show 0 ≤ j by omega)
    have c1 := Lib.hid (Cosine_any k w hC)
    have c2 := Lib.hid (rC_any k k rfl w hC)
    obtain ⟨m, hm⟩ : ∃ m : Nat, m = k % 256 := ⟨_, rfl⟩
    have e1 : Int.tmod (k : Int) 256 = (m : Int) := by rw [hm]; rfl
    have hlt : m < 256 := by omega
    have hcc : cosC k = cosM m := by unfold cosC; rw [hm]
    have c3 := Lib.hid (Cosine_any (256 - m) w hC)
    have e2 : (256 : Int) - (m : Int) = ((256 - m : Nat) : Int) := by omega
    have h256 : cosC (256 - m) = cosM m := by unfold cosC; exact cos_even_all m hlt
    rw [h256] at c3
    rw [hcc] at c1 c2
    obtain ⟨⟨lo, hi⟩, b1, b2, c4⟩ := lcos_any m hlt w
    have C4 := Lib.hid c4
    have hb := cosM_bd m
    simp only at b1 b2
    clear hcc h256 hm c4
    generalize cosM m = x at *
    generalize 256 - m = q at *
    have q0 : (x != x) = false := by simp
    go_enter Tryd.func9, Tryd.ntmps9
    go_wp2_with fail
    refine c1.out.mono ?_
    rintro e w' ⟨rfl, rfl⟩
    go_wp2_with fail
    refine c2.out.mono ?_
    rintro e w' ⟨rfl, rfl⟩
    go_wp2_with fail
    refine c3.out.mono ?_
    rintro e w' ⟨rfl, rfl⟩
    clear e1 e2
    go_wp2_with fail
    refine C4.out.mono ?_
    rintro e w' ⟨rfl, rfl⟩
    simp only
    go_wp2_with fail
    refine (hk _ hC).mono ?_
    rintro e w1 ⟨rfl, hb1⟩
    go_wp2_with fail
    go_ret
    exact ⟨rfl, hb1⟩
end Go.Proofs.YtfapmghhmkekaaaDoor
