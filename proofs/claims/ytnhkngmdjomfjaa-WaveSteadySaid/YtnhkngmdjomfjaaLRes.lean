/- WaveResamples: the walk -/
import Derived.Test.YtnhkngmdjomfjaaKnown
import Derived.Test.YtnhkngmdjomfjaaResAny
import Derived.Test.YtnhkngmdjomfjaaMeas2
namespace Go.Proofs.Ytnhkngmdjomfjaa
open Go.RowKit Ear

set_option maxRecDepth 100000 in
set_option maxHeartbeats 2000000 in
theorem WaveResamples_any (rate : Int) (A : Option Addr) (c : Nat) (l : List Int) (u d : Int) (w : World) (h : Lies w A (ics l)) (hn : l.length ≤ 9223372036854775807) :
    Calls Try.prog 3 #[recV rate A l.length c, .int .i64 u, .int .i64 d] w fun e w' => e = .returned (.bool true) ∧ Below w.heap.size w w' := by
  have HL := Lib.hid (fun o => h.alloc (w := w) o)
  cases hb : decide ((l.length : Int) ≤ 3000 ∨ (200000 < (l.length : Int) ∧ (l.length : Int) < 250000)) with
  | false =>
    have HB := Lib.hid hb
    clear hb
    go_enter Try.func3, Try.ntmps3
    go_wp2_with fail
    refine (short_any _ _ false HB).mono ?_
    rintro e w0 ⟨rfl, rfl⟩
    go_wp2_with fail
    refine (known2_any _).mono ?_
    rintro e w7 ⟨rfl, hb7⟩
    go_wp2_with fail
    go_ret
    exact ⟨rfl, bel_trans (bel_alloc (Below.refl _ w) _) hb7⟩
  | true =>
    have HB := Lib.hid hb
    clear hb
    obtain ⟨rt, err, out, ho⟩ : ∃ rt err out, Hid (resR rate l u d = (rt, err, out)) := ⟨_, _, _, Lib.hid rfl⟩
    have hlen := resR_len rate l u d
    rw [ho.out] at hlen
    simp only at hlen
    go_enter Try.func3, Try.ntmps3
    go_wp2_with fail
    refine (short_any _ _ true HB).mono ?_
    rintro e w0 ⟨rfl, rfl⟩
    go_wp2_with fail
    refine (Resample_any rate A c l u d _ (HL.out _) hn rt err out ho).mono ?_
    rintro e w1 ⟨A1, c1, rfl, ho1, hb1⟩
    have B1 := Lib.hid (bel_trans (bel_alloc (Below.refl _ w) _) hb1)
    have L1 := Lib.hid (Lies.of_own ho1)
    have R0 := row_keep (heap_alloc_new w _) hb1
    have q0 := cell_of_row w1 _ 0 _ _ _ R0
    have q1 := cell_of_row w1 _ 1 _ _ _ R0
    simp at q0 q1
    have hz0 := row_lt R0
    have HL1 := Lib.hid (((HL.out _).below hb1).alloc (.cells #[.int .i64 rt, .slice A1 out.length c1] 24))
    clear R0 ho1 hb1
    go_wp2_with fail
    refine (rResample_any rate A c l u d _ HL1.out hn rt err out ho).mono ?_
    rintro e w2 ⟨A2, c2, rfl, ho2, hb2⟩
    have B2 := Lib.hid (bel_trans (bel_alloc B1.out _) hb2)
    have L1' := Lib.hid ((L1.out.alloc _).below hb2)
    have L2 := Lib.hid (Lies.of_own ho2)
    have R1 := row_keep (heap_alloc_new w1 _) hb2
    have p0 := cell_of_row w2 _ 0 _ _ _ R1
    have p1 := cell_of_row w2 _ 1 _ _ _ R1
    simp at p0 p1
    have hz1 := row_lt R1
    clear R1 ho2 hb2 q0 q1 hz0 HL1 L1 B1
    go_wp2_with fail
    refine (same_bel A1 A2 c1 c2 out out _ (L1'.out.alloc _) (L2.out.alloc _) (by omega) (by omega) true (Lib.hid (by simp))).mono ?_
    rintro e w3 ⟨rfl, hb3⟩
    have B3 := Lib.hid (bel_trans (bel_alloc B2.out _) hb3)
    clear hb3 B2
    go_wp2_with fail
    refine (known2_any _).mono ?_
    rintro e w7 ⟨rfl, hb7⟩
    go_wp2_with fail
    go_ret
    exact ⟨rfl, bel_trans B3.out hb7⟩
end Go.Proofs.Ytnhkngmdjomfjaa
