/- usable, Listen, Close, At -/
import Derived.Test.YtnflpnbpigcfhaaProc2
namespace Go.Proofs.Ytnflpnbpigcfhaa
open Go.RowKit Ear

attribute [local go_sem ↓] Go.wp_at_zero Go.wp_at_succ

theorem seg_info : (Try.prog.info? 51).map (fun i => (i.zero, i.size, i.bytes)) = some (some (.agg #[.int .i64 0, .int .i64 0]), 2, 16) := by kernel_rfl

/-- segments and an error come back from a method of the listener at p, which is now as said -/
def SegsErr (p : Nat) (g : Gt) (s : Ls) (bl : Value) (err : Int) (out : List (Int × Int)) (w : World) (e : Ending) (w' : World) : Prop :=
  ∃ A c, e = .returned (.tuple #[.slice A out.length c, .int .i64 err]) ∧ w'.ownsRow w.heap.size 51 2 (.slice A out.length c) out.length (scs out) ∧ Lsn w' p g s bl ∧ w.grownBy w' (some p)

set_option maxHeartbeats 400000 in
theorem usable_yes (p : Nat) (w : World) (h : w.cell? ⟨p, 7, none⟩ = some (.bool true)) : Calls Try.prog 38 #[.pointer (some ⟨p, 0, none⟩)] w fun e w' => e = .returned (.bool true) ∧ w = w' := by
  go_enter Try.func38, Try.ntmps38
  go_wp2_with fail
  go_ret
  exact ⟨rfl, rfl⟩
set_option maxHeartbeats 400000 in
theorem usable_no (p : Nat) (w : World) (h : w.cell? ⟨p, 7, none⟩ = some (.bool false)) : Calls Try.prog 38 #[.pointer (some ⟨p, 0, none⟩)] w fun e w' => e = .returned (.bool false) ∧ w = w' := by
  go_enter Try.func38, Try.ntmps38
  go_wp2_with fail
  go_ret
  exact ⟨rfl, rfl⟩
set_option maxHeartbeats 400000 in
theorem usable_nil (w : World) : Calls Try.prog 38 #[.pointer none] w fun e w' => e = .returned (.bool false) ∧ w = w' := by
  go_enter Try.func38, Try.ntmps38
  go_wp2_with fail
  go_ret
  exact ⟨rfl, rfl⟩

/-- a new listener -/
def Ls.new : Ls := ⟨0, 0, 0, 0, 0, 0⟩

set_option maxHeartbeats 400000 in
theorem Listen_bad (g : Gt) (w : World) (hg : Hid (decide g.ok = false)) : Calls Try.prog 27 #[gateV g] w fun e w' => e = .returned (.tuple #[.pointer none, .int .i64 2]) ∧ Below w.heap.size w w' := by
  go_enter Try.func27, Try.ntmps27
  go_wp2_with fail
  refine (right_any g _ false hg).mono ?_
  rintro e w1 ⟨rfl, hb⟩
  go_wp2_with fail
  go_ret2
  exact ⟨rfl, ((Below.refl _ _).alloc (Nat.le_refl _) _).trans (hb.mono (by simp))⟩

set_option maxHeartbeats 400000 in
theorem Listen_ok (g : Gt) (w : World) (hg : Hid (decide g.ok = true)) : Calls Try.prog 27 #[gateV g] w fun e w' => ∃ p, e = .returned (.tuple #[.pointer (some ⟨p, 0, none⟩), .int .i64 0]) ∧ w.heap.size ≤ p ∧ Lsn w' p g Ls.new (.slice none 0 0) ∧ Below w.heap.size w w' := by
  obtain ⟨g1, g2, g3, g4, g5, g6, g7⟩ := g
  go_enter Try.func27, Try.ntmps27
  go_wp2_with fail
  refine (right_any ⟨g1, g2, g3, g4, g5, g6, g7⟩ _ true hg).mono ?_
  rintro e w1 ⟨rfl, hb⟩
  have hz := hb.size
  simp at hz
  have c0 : ∀ o, w1.cell? ⟨w.heap.size, o, none⟩ = (#[.int .i64 g1, .int .i64 g2, .int .i64 g3, .int .i64 g4, .int .i64 g5, .int .i64 g6, .int .i64 g7] : Array Value)[o]? := fun o => by
    rw [hb.cell (p := ⟨w.heap.size, o, none⟩) (by simp)]; exact cell_of_row _ _ _ _ _ _ (heap_alloc_new w _)
  have d0 := c0 0; have d1 := c0 1; have d2 := c0 2; have d3 := c0 3; have d4 := c0 4; have d5 := c0 5; have d6 := c0 6
  simp at d0 d1 d2 d3 d4 d5 d6
  clear c0
  go_wp2_with fail
  go_ret2
  exact ⟨w1.heap.size, rfl, by omega, heap_alloc_new w1 _, (((Below.refl _ _).alloc (Nat.le_refl _) _).trans (hb.mono (by simp))).alloc (by omega) _⟩

set_option maxHeartbeats 400000 in
theorem Close_wait (g : Gt) (s : Ls) (bl : Value) (p : Nat) (w : World) (hL : Lsn w p g s bl) (hs : s.state = 0) :
    Calls Try.prog 29 #[.pointer (some ⟨p, 0, none⟩)] w (SegsErr p g { s with state := 2 } bl 0 [] w) := by
  obtain ⟨s1, s2, s3, s4, s5, s6⟩ := s
  simp only at hs
  subst hs
  have c7 : w.cell? ⟨p, 7, none⟩ = some (.bool true) := cell_of_row w p 7 _ _ _ hL
  have c8 : w.cell? ⟨p, 8, none⟩ = some (.int .i64 0) := cell_of_row w p 8 _ _ _ hL
  have f8 := row_frozen hL 8
  have HL := Lib.hid hL
  clear hL
  go_enter Try.func29, Try.ntmps29
  go_wp2_with (go_at_call 38; refine (usable_yes p _ c7).mono ?_; rintro e w' ⟨rfl, rfl⟩)
  go_ret2
  exact ⟨none, 0, rfl, World.ownsRow_nil _ _ _ _, row_set HL.out 8 _, only_set (World.grownBy.refl _ _) (.inl rfl) _⟩

set_option maxHeartbeats 400000 in
theorem Close_closed (g : Gt) (s : Ls) (bl : Value) (p : Nat) (w : World) (hL : Lsn w p g s bl) (hs : s.state = 2) :
    Calls Try.prog 29 #[.pointer (some ⟨p, 0, none⟩)] w (SegsErr p g { s with state := 2 } bl 8 [] w) := by
  obtain ⟨s1, s2, s3, s4, s5, s6⟩ := s
  simp only at hs
  subst hs
  have c7 : w.cell? ⟨p, 7, none⟩ = some (.bool true) := cell_of_row w p 7 _ _ _ hL
  have c8 : w.cell? ⟨p, 8, none⟩ = some (.int .i64 2) := cell_of_row w p 8 _ _ _ hL
  have f8 := row_frozen hL 8
  have HL := Lib.hid hL
  clear hL
  go_enter Try.func29, Try.ntmps29
  go_wp2_with (go_at_call 38; refine (usable_yes p _ c7).mono ?_; rintro e w' ⟨rfl, rfl⟩)
  go_ret2
  exact ⟨none, 0, rfl, World.ownsRow_nil _ _ _ _, row_set HL.out 8 _, only_set (World.grownBy.refl _ _) (.inl rfl) _⟩

set_option maxRecDepth 100000 in
set_option maxHeartbeats 1000000 in
theorem Close_speech (g : Gt) (s : Ls) (bl : Value) (p : Nat) (w : World) (hL : Lsn w p g s bl) (hs : s.state = 1) (hg : 1 ≤ g.block) (hg' : g.block ≤ 4096) (hb0 : 0 ≤ s.begin_) (hb1 : s.begin_ ≤ 3000000001) :
    Calls Try.prog 29 #[.pointer (some ⟨p, 0, none⟩)] w (SegsErr p g { s with state := 2 } bl 0 [(s.begin_ * g.block, s.samples)] w) := by
  obtain ⟨s1, s2, s3, s4, s5, s6⟩ := s
  obtain ⟨g1, g2, g3, g4, g5, g6, g7⟩ := g
  simp only at hs hg hg' hb0 hb1
  subst hs
  have c7 : w.cell? ⟨p, 7, none⟩ = some (.bool true) := cell_of_row w p 7 _ _ _ hL
  have c8 : w.cell? ⟨p, 8, none⟩ = some (.int .i64 1) := cell_of_row w p 8 _ _ _ hL
  have f8 := row_frozen hL 8
  have HL := Lib.hid hL
  clear hL
  have m3 := mul_bd3 (x := s5) (y := g1) (X := 3000000001) (Y := 4096) (by omega) (by omega) (by omega) (by omega) (by omega)
  have p3 : IntKind.i64.wrap (s5 * g1) = s5 * g1 := IntWalk.i64_in _ (by omega)
  go_enter Try.func29, Try.ntmps29
  go_wp2_with (go_at_call 38; refine (usable_yes p _ c7).mono ?_; rintro e w' ⟨rfl, rfl⟩)
  obtain ⟨W, hW⟩ : ∃ W : World, W = w.setCell ⟨p, 8, none⟩ (.int .i64 2) := ⟨_, rfl⟩
  rw [← hW]
  have k1 : Lsn W p ⟨g1, g2, g3, g4, g5, g6, g7⟩ ⟨2, s2, s3, s4, s5, s6⟩ bl := by rw [hW]; exact row_set HL.out 8 _
  have k4 : w.grownBy W (some p) := by rw [hW]; exact only_set (World.grownBy.refl _ _) (.inl rfl) _
  have hz : W.heap.size = w.heap.size := by rw [hW]; simp [World.setCell]
  clear hW c7 c8 f8 HL
  have HZ := Lib.hid hz
  clear hz
  have c0 : W.cell? ⟨p, 0, none⟩ = some (.int .i64 g1) := cell_of_row W p 0 _ _ _ k1
  have c11 : W.cell? ⟨p, 11, none⟩ = some (.int .i64 s3) := cell_of_row W p 11 _ _ _ k1
  have c13 : W.cell? ⟨p, 13, none⟩ = some (.int .i64 s5) := cell_of_row W p 13 _ _ _ k1
  have hp := row_lt k1
  have K1 := Lib.hid k1
  clear k1
  go_region_held3 (fun w' => w'.cell? ⟨p, 0, none⟩ = some (.int .i64 g1) ∧ w'.cell? ⟨p, 11, none⟩ = some (.int .i64 s3) ∧ w'.cell? ⟨p, 13, none⟩ = some (.int .i64 s5)) (simp [go_sem, World.cell?_alloc_past, *]) (fail)
  all_goals
    go_wp2_with fail
    go_ret2
    refine ⟨some ⟨W.heap.size, 0, none⟩, 1, rfl, ?_, ?_, ?_⟩
    · rw [← HZ.out]; exact (World.ownsRow_lit (size := 2) W #[.int .i64 (s5 * g1), .int .i64 s3] 1 (Nat.le_refl _) (by unfold maxLen; omega) rfl)
    · exact (Below.heap_alloc W _ p hp).trans K1.out
    · exact only_drew (only_alloc k4 _)
end Go.Proofs.Ytnflpnbpigcfhaa
