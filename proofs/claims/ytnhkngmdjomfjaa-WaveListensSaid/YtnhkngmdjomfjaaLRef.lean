/- WaveRefuses: the walk -/
import Derived.Test.YtnhkngmdjomfjaaLFed
import Derived.Test.YtnhkngmdjomfjaaLSeg
import Derived.Test.YtnhkngmdjomfjaaLed
namespace Go.Proofs.Ytnhkngmdjomfjaa
open Go.RowKit Ear

/-- why nothing is asked of the listener -/
def RefNo (g : Gt) (x wr y : List Int) : Prop :=
  500 < x.length ∨ (x.length ≤ 500 ∧ 500 < wr.length) ∨ (x.length ≤ 500 ∧ wr.length ≤ 500 ∧ 500 < y.length) ∨
  (x.length ≤ 500 ∧ wr.length ≤ 500 ∧ y.length ≤ 500 ∧
    (Hid (decide g.ok = false) ∨ (Hid (decide g.ok = true) ∧ (Hid (smp x = false) ∨ (Hid (smp x = true) ∧ (Hid (smp y = false) ∨ (Hid (smp y = true) ∧ Hid (smp wr = true))))))))

set_option maxRecDepth 100000 in
set_option maxHeartbeats 2000000 in
theorem WaveRefuses_no (g : Gt) (A A1 A2 : Option Addr) (c c1 c2 : Nat) (x wr y : List Int) (w : World) (h : Lies w A (ics x)) (h1 : Lies w A1 (ics wr)) (h2 : Lies w A2 (ics y)) (hh : RefNo g x wr y) :
    Calls Try.prog 7 #[.slice A x.length c, .slice A1 wr.length c1, .slice A2 y.length c2, gateV g] w fun e w' => e = .returned (.bool true) ∧ Below w.heap.size w w' := by
  have D0 := Lib.hid (((((Led.nil w).add h).add h1).add h2).alloc (.cells #[.int .i64 g.block, .int .i64 g.high, .int .i64 g.low, .int .i64 g.rise, .int .i64 g.fall, .int .i64 g.lead, .int .i64 g.longest] 41))
  clear h h1 h2
  obtain ⟨g1, g2, g3, g4, g5, g6, g7⟩ := g
  rcases hh with hl | ⟨hl, hl1⟩ | ⟨hl, hl1, hl2⟩ | ⟨hl, hl1, hl2, hh⟩
  · go_enter Try.func7, Try.ntmps7
    go_wp2_with fail
    refine (known2_any _).mono ?_
    rintro e w7 ⟨rfl, hb7⟩
    go_wp2_with fail
    go_ret
    exact ⟨rfl, bel_trans D0.out.bel hb7⟩
  · go_enter Try.func7, Try.ntmps7
    go_wp2_with fail
    refine (known2_any _).mono ?_
    rintro e w7 ⟨rfl, hb7⟩
    go_wp2_with fail
    go_ret
    exact ⟨rfl, bel_trans D0.out.bel hb7⟩
  · go_enter Try.func7, Try.ntmps7
    go_wp2_with fail
    refine (known2_any _).mono ?_
    rintro e w7 ⟨rfl, hb7⟩
    go_wp2_with fail
    go_ret
    exact ⟨rfl, bel_trans D0.out.bel hb7⟩
  · rcases hh with hg | ⟨hg, hh⟩
    · go_enter Try.func7, Try.ntmps7
      go_wp2_with fail
      refine (rGate_any ⟨g1, g2, g3, g4, g5, g6, g7⟩ _ false hg).mono ?_
      rintro e w1 ⟨rfl, hb1⟩
      have D1 := Lib.hid (D0.out.below hb1)
      clear hb1 D0
      go_wp2_with fail
      refine (known2_any _).mono ?_
      rintro e w7 ⟨rfl, hb7⟩
      go_wp2_with fail
      go_ret
      exact ⟨rfl, bel_trans D1.out.bel hb7⟩
    · rcases hh with hx | ⟨hx, hh⟩
      · go_enter Try.func7, Try.ntmps7
        go_wp2_with fail
        refine (rGate_any ⟨g1, g2, g3, g4, g5, g6, g7⟩ _ true hg).mono ?_
        rintro e w1 ⟨rfl, hb1⟩
        have D1 := Lib.hid (D0.out.below hb1)
        clear hb1 D0
        go_wp2_with fail
        refine (All_any A c x _ _ _ (D1.out.lies 0 _ _ rfl) (by omega) false hx).mono ?_
        rintro e w0 ⟨rfl, rfl⟩
        go_wp2_with fail
        refine (known2_any _).mono ?_
        rintro e w7 ⟨rfl, hb7⟩
        go_wp2_with fail
        go_ret
        exact ⟨rfl, bel_trans D1.out.bel hb7⟩
      · rcases hh with hy | ⟨hy, hr⟩
        · go_enter Try.func7, Try.ntmps7
          go_wp2_with fail
          refine (rGate_any ⟨g1, g2, g3, g4, g5, g6, g7⟩ _ true hg).mono ?_
          rintro e w1 ⟨rfl, hb1⟩
          have D1 := Lib.hid (D0.out.below hb1)
          clear hb1 D0
          go_wp2_with fail
          refine (All_any A c x _ _ _ (D1.out.lies 0 _ _ rfl) (by omega) true hx).mono ?_
          rintro e w0 ⟨rfl, rfl⟩
          go_wp2_with fail
          refine (All_any A2 c2 y _ _ _ (D1.out.lies 2 _ _ rfl) (by omega) false hy).mono ?_
          rintro e w0 ⟨rfl, rfl⟩
          go_wp2_with fail
          refine (known2_any _).mono ?_
          rintro e w7 ⟨rfl, hb7⟩
          go_wp2_with fail
          go_ret
          exact ⟨rfl, bel_trans D1.out.bel hb7⟩
        · go_enter Try.func7, Try.ntmps7
          go_wp2_with fail
          refine (rGate_any ⟨g1, g2, g3, g4, g5, g6, g7⟩ _ true hg).mono ?_
          rintro e w1 ⟨rfl, hb1⟩
          have D1 := Lib.hid (D0.out.below hb1)
          clear hb1 D0
          go_wp2_with fail
          refine (All_any A c x _ _ _ (D1.out.lies 0 _ _ rfl) (by omega) true hx).mono ?_
          rintro e w0 ⟨rfl, rfl⟩
          go_wp2_with fail
          refine (All_any A2 c2 y _ _ _ (D1.out.lies 2 _ _ rfl) (by omega) true hy).mono ?_
          rintro e w0 ⟨rfl, rfl⟩
          go_wp2_with fail
          refine (All_any A1 c1 wr _ _ _ (D1.out.lies 1 _ _ rfl) (by omega) true hr).mono ?_
          rintro e w0 ⟨rfl, rfl⟩
          go_wp2_with fail
          refine (known2_any _).mono ?_
          rintro e w7 ⟨rfl, hb7⟩
          go_wp2_with fail
          go_ret
          exact ⟨rfl, bel_trans D1.out.bel hb7⟩

end Go.Proofs.Ytnhkngmdjomfjaa
