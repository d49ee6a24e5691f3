/- what a listener and Segments refuse; At -/
import Derived.Test.YtnhkngmdjomfjaaSegs
namespace Go.Proofs.Ytnhkngmdjomfjaa
open Go.RowKit Ear

set_option maxHeartbeats 1000000 in
theorem Feed_arg (g : Gt) (s : Ls) (bl : Value) (p : Nat) (A : Option Addr) (c : Nat) (x : List Int) (w : World) (hL : Lsn w p g s bl) (h : Lies w A (ics x)) (hl : x.length ≤ 200000) (hv : Hid (smp x = false)) :
    Calls Try.prog 35 #[.pointer (some ⟨p, 0, none⟩), .slice A x.length c] w fun e w' => e = .returned (.tuple #[.slice none 0 0, .int .i64 2]) ∧ w = w' := by
  have c7 : w.cell? ⟨p, 7, none⟩ = some (.bool true) := cell_of_row w p 7 _ _ _ hL
  have HL := Lib.hid hL
  clear hL
  go_enter Try.func35, Try.ntmps35
  go_wp2_with fail
  refine (usable_yes p _ c7).mono ?_
  rintro e w' ⟨rfl, rfl⟩
  go_wp2_with fail
  refine (samples_any A c x _ h (by omega) false hv).mono ?_
  rintro e w' ⟨rfl, rfl⟩
  go_wp2_with fail
  go_ret2
  exact ⟨rfl, rfl⟩
set_option maxHeartbeats 1000000 in
theorem Feed_closed (g : Gt) (s : Ls) (bl : Value) (p : Nat) (A : Option Addr) (c : Nat) (x : List Int) (w : World) (hL : Lsn w p g s bl) (hs : s.state = 2) (h : Lies w A (ics x)) (hl : x.length ≤ 200000) (hv : Hid (smp x = true)) :
    Calls Try.prog 35 #[.pointer (some ⟨p, 0, none⟩), .slice A x.length c] w fun e w' => e = .returned (.tuple #[.slice none 0 0, .int .i64 8]) ∧ w = w' := by
  obtain ⟨s1, s2, s3, s4, s5, s6⟩ := s
  simp only at hs
  subst hs
  have c7 : w.cell? ⟨p, 7, none⟩ = some (.bool true) := cell_of_row w p 7 _ _ _ hL
  have c8 : w.cell? ⟨p, 8, none⟩ = some (.int .i64 2) := cell_of_row w p 8 _ _ _ hL
  have HL := Lib.hid hL
  clear hL
  go_enter Try.func35, Try.ntmps35
  go_wp2_with fail
  refine (usable_yes p _ c7).mono ?_
  rintro e w' ⟨rfl, rfl⟩
  go_wp2_with fail
  refine (samples_any A c x _ h (by omega) true hv).mono ?_
  rintro e w' ⟨rfl, rfl⟩
  go_wp2_with fail
  go_ret2
  exact ⟨rfl, rfl⟩
set_option maxHeartbeats 1000000 in
theorem At_any (g : Gt) (s : Ls) (bl : Value) (p : Nat) (w : World) (hL : Lsn w p g s bl) (b : Bool) (hb : (s.state == 1) = b) :
    Calls Try.prog 37 #[.pointer (some ⟨p, 0, none⟩)] w fun e w' => e = .returned (.tuple #[.int .i64 s.samples, .bool b]) ∧ Below w.heap.size w w' := by
  obtain ⟨s1, s2, s3, s4, s5, s6⟩ := s
  simp only at hb
  have c7 : w.cell? ⟨p, 7, none⟩ = some (.bool true) := cell_of_row w p 7 _ _ _ hL
  have c8 : w.cell? ⟨p, 8, none⟩ = some (.int .i64 s1) := cell_of_row w p 8 _ _ _ hL
  have c11 : w.cell? ⟨p, 11, none⟩ = some (.int .i64 s3) := cell_of_row w p 11 _ _ _ hL
  have HL := Lib.hid hL
  clear hL
  go_enter Try.func37, Try.ntmps37
  go_wp2_with fail
  refine (usable_yes p _ c7).mono ?_
  rintro e w' ⟨rfl, rfl⟩
  go_wp2_with fail
  go_quiet (fail)
  go_wp2_with fail
  go_ret2
  exact ⟨rfl, ⟨rfl, rfl, rfl, Nat.le_refl _, fun _ _ => rfl⟩⟩
set_option maxHeartbeats 1000000 in
theorem Segments_long (g : Gt) (A : Option Addr) (c : Nat) (x : List Int) (w : World) (hl : 200000 < x.length) :
    Calls Try.prog 30 #[.slice A x.length c, gateV g] w (SegRet 5 [] w) := by
  go_enter Try.func30, Try.ntmps30
  go_wp2_with fail
  go_ret2
  exact ⟨none, 0, rfl, World.ownsRow_nil _ _ _ _, (Below.refl _ _).alloc (Nat.le_refl _) _⟩
set_option maxHeartbeats 1000000 in
theorem Segments_gate (g : Gt) (A : Option Addr) (c : Nat) (x : List Int) (w : World) (hl : x.length ≤ 200000) (hg : Hid (decide g.ok = false)) :
    Calls Try.prog 30 #[.slice A x.length c, gateV g] w (SegRet 2 [] w) := by
  go_enter Try.func30, Try.ntmps30
  go_wp2_with fail
  refine (Listen_bad g _ hg).mono ?_
  rintro e w1 ⟨rfl, hb1⟩
  go_wp2_with fail
  go_ret2
  exact ⟨none, 0, rfl, World.ownsRow_nil _ _ _ _, ((Below.refl _ _).alloc (Nat.le_refl _) _).trans (hb1.mono (by simp))⟩
set_option maxHeartbeats 1000000 in
theorem Segments_smp (g : Gt) (A : Option Addr) (c : Nat) (x : List Int) (w : World) (h : Lies w A (ics x)) (hl : x.length ≤ 200000) (hg : Hid (decide g.ok = true)) (hv : Hid (smp x = false)) :
    Calls Try.prog 30 #[.slice A x.length c, gateV g] w (SegRet 2 [] w) := by
  go_enter Try.func30, Try.ntmps30
  go_wp2_with fail
  refine (Listen_ok g _ hg).mono ?_
  rintro e w1 ⟨p, rfl, hp, hL, hb1⟩
  have hbw : Below w.heap.size w w1 := ((Below.refl _ _).alloc (Nat.le_refl _) _).trans (hb1.mono (by simp))
  have HL := Lib.hid hL
  have LX := Lib.hid (h.below hbw)
  clear hL hb1
  go_wp2_with fail
  refine (Feed_arg g Ls.new _ p A c x _ HL.out LX.out hl hv).mono ?_
  rintro e w' ⟨rfl, rfl⟩
  go_wp2_with fail
  go_ret2
  exact ⟨none, 0, rfl, World.ownsRow_nil _ _ _ _, hbw⟩
end Go.Proofs.Ytnhkngmdjomfjaa
