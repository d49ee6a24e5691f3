/- (*Listener).process in speech -/
import Derived.Test.YtnflpnbpigcfhaaProc
namespace Go.Proofs.Ytnflpnbpigcfhaa
open Go.RowKit Ear

attribute [local go_sem ↓] Go.wp_at_zero Go.wp_at_succ

set_option maxRecDepth 100000 in
set_option maxHeartbeats 1000000 in
theorem process_speech (g : Gt) (s : Ls) (bl : Value) (p : Nat) (A : Option Addr) (c : Nat) (l : List Int) (w : World) (hL : Lsn w p g s bl) (h : Lies w A (ics l)) (hv : Hid (smp l = true)) (hl : l.length ≤ 4096)
    (hg : g.ok) (hs : s.state = 1) (b1 : 0 ≤ s.blocks) (b2 : s.blocks ≤ 3000000000) (b3 : 0 ≤ s.run) (b4 : s.run ≤ 3000000000) (b5 : 0 ≤ s.begin_) (b6 : s.begin_ ≤ 3000000001) (sg : Int × Int) (en : Bool) (hsg : Hid ((s.step g (enr l)).2 = (if en = true then some sg else none) ∧ (en = false → sg = (0, 0)))) :
    Calls Try.prog 39 #[.pointer (some ⟨p, 0, none⟩), .slice A l.length c] w fun e w' => e = .returned (.tuple #[.agg #[.int .i64 sg.1, .int .i64 sg.2], .bool en]) ∧ Lsn w' p g (s.step g (enr l)).1 bl ∧ w.grownBy w' (some p) := by
  obtain ⟨g1, g2, g3, g4, g5, g6, g7⟩ := g
  obtain ⟨s1, s2, s3, s4, s5, s6⟩ := s
  simp only [Gt.ok] at hg
  simp only at hs b1 b2 b3 b4 b5 b6
  subst hs
  have hc := fun o => cell_of_row w p o _ _ _ hL
  have hf := fun o => row_frozen hL o
  have hp := row_lt hL
  have c0 : w.cell? ⟨p, 0, none⟩ = some (.int .i64 g1) := hc 0
  have c1 : w.cell? ⟨p, 1, none⟩ = some (.int .i64 g2) := hc 1
  have c2 : w.cell? ⟨p, 2, none⟩ = some (.int .i64 g3) := hc 2
  have c3 : w.cell? ⟨p, 3, none⟩ = some (.int .i64 g4) := hc 3
  have c4 : w.cell? ⟨p, 4, none⟩ = some (.int .i64 g5) := hc 4
  have c5 : w.cell? ⟨p, 5, none⟩ = some (.int .i64 g6) := hc 5
  have c6 : w.cell? ⟨p, 6, none⟩ = some (.int .i64 g7) := hc 6
  have c8 : w.cell? ⟨p, 8, none⟩ = some (.int .i64 1) := hc 8
  have c10 : w.cell? ⟨p, 10, none⟩ = some (.int .i64 s2) := hc 10
  have c12 : w.cell? ⟨p, 12, none⟩ = some (.int .i64 s4) := hc 12
  have c13 : w.cell? ⟨p, 13, none⟩ = some (.int .i64 s5) := hc 13
  have c14 : w.cell? ⟨p, 14, none⟩ = some (.int .i64 s6) := hc 14
  have HL := Lib.hid hL
  clear hc hL
  have HA := Lib.hid (fun o => h.alloc (w := w) o)
  have hve : Hid (allR (-65536) 65535 l = true) := allR_of fun x hx => by have := allR_mem hv.out hx; omega
  have hen := enr_bd (l := l) (B := 32768) (fun x hx => by have := allR_mem hv.out hx; omega)
  have hen2 : enr l ≤ 4398046511104 := by omega
  generalize hN : enr l = N at *
  have HN := Lib.hid hN
  clear hN
  have m1 := mul_bd3 (x := g2) (y := g1) (X := 1073741824) (Y := 4096) (by omega) (by omega) (by omega) (by omega) (by omega)
  have m2 := mul_bd3 (x := g3) (y := g1) (X := 1073741824) (Y := 4096) (by omega) (by omega) (by omega) (by omega) (by omega)
  have p1 : IntKind.i64.wrap (g2 * g1) = g2 * g1 := IntWalk.i64_in _ (by omega)
  have p2 : IntKind.i64.wrap (g3 * g1) = g3 * g1 := IntWalk.i64_in _ (by omega)
  generalize hld : decide (g2 * g1 ≤ N) = ld at *
  generalize hqt : decide (N < g3 * g1) = qt at *
  have HQT := Lib.hid hqt
  obtain ⟨R, hR⟩ : ∃ R : Int, (if qt = true then s4 + 1 else 0) = R := ⟨_, rfl⟩
  have HR := Lib.hid hR
  have hR0 : 0 ≤ R ∧ R ≤ s4 + 1 := by rw [← hR]; split <;> omega
  clear hR
  have w1 : IntKind.i64.wrap (s2 - s5) = s2 - s5 := IntWalk.i64_in _ (by omega)
  have w2 : IntKind.i64.wrap (s2 - s5 + 1) = s2 - s5 + 1 := IntWalk.i64_in _ (by omega)
  have m3 := mul_bd3 (x := s5) (y := g1) (X := 3000000001) (Y := 4096) (by omega) (by omega) (by omega) (by omega) (by omega)
  have m4 := mul_bd3 (x := s2 - g5 + 1) (y := g1) (X := 3000001001) (Y := 4096) (by omega) (by omega) (by omega) (by omega) (by omega)
  have m5 := mul_bd3 (x := s2 + 1) (y := g1) (X := 3000001001) (Y := 4096) (by omega) (by omega) (by omega) (by omega) (by omega)
  have p3 : IntKind.i64.wrap (s5 * g1) = s5 * g1 := IntWalk.i64_in _ (by omega)
  have p4 : IntKind.i64.wrap ((s2 - g5 + 1) * g1) = (s2 - g5 + 1) * g1 := IntWalk.i64_in _ (by omega)
  have p5 : IntKind.i64.wrap ((s2 + 1) * g1) = (s2 + 1) * g1 := IntWalk.i64_in _ (by omega)
  have hE : ∀ W : World, Lies W A (ics l) → Calls Try.prog 46 #[.slice A l.length c] W fun e w' => e = .returned (.int .i64 N) ∧ W = w' := by
    intro W hW
    have := energy_any A c l W hW hve (by omega)
    rw [HN.out] at this
    exact this
  have HE := Lib.hid hE
  clear hE
  go_enter Try.func39, Try.ntmps39
  go_upto_region 1 with (fail)
  go_cut [6, 7, 8] (fun t6 t7 t8 wx => t6 = .pointer (some ⟨w.heap.size + 1, 0, none⟩) ∧ t7 = .int .i64 N ∧ t8 = .int .i64 s2 ∧ wx = ((w.alloc (.cells #[.int .i64 0, .int .i64 0] 51)).alloc (.cells #[.int .i64 g1, .int .i64 g2, .int .i64 g3, .int .i64 g4, .int .i64 g5, .int .i64 g6, .int .i64 g7] 47)).drew)
  case first =>
    go_region_held3 (fun w' => w'.cell? ⟨p, 0, none⟩ = some (.int .i64 g1) ∧ w'.cell? ⟨p, 1, none⟩ = some (.int .i64 g2) ∧ w'.cell? ⟨p, 2, none⟩ = some (.int .i64 g3) ∧ w'.cell? ⟨p, 3, none⟩ = some (.int .i64 g4) ∧ w'.cell? ⟨p, 4, none⟩ = some (.int .i64 g5) ∧ w'.cell? ⟨p, 5, none⟩ = some (.int .i64 g6) ∧ w'.cell? ⟨p, 6, none⟩ = some (.int .i64 g7) ∧ w'.cell? ⟨p, 10, none⟩ = some (.int .i64 s2)) (simp [go_sem, World.cell?_alloc_past, *])
      (first | (go_at_call 46; refine (HE.out _ ?_).mono ?_; (first | exact ((h.alloc _).drew) | exact (((h.alloc _).alloc _).drew) | exact (((h.alloc _).drew).alloc _)); rintro e w' ⟨rfl, rfl⟩))
    all_goals (go_wp2_with fail; go_meet; exact ⟨rfl, rfl, rfl, rfl⟩)
  case rest =>
    obtain ⟨rfl, rfl, rfl, rfl⟩ := hcut
    go_wp2_with fail
    go_quiet (fail)
    go_wp2_with fail
    obtain ⟨W2, hW2⟩ : ∃ W2 : World, W2 = (((w.setCell ⟨p, 10, none⟩ (.int .i64 (s2 + 1))).alloc (.cells #[.int .i64 0, .int .i64 0] 51)).alloc (.cells #[.int .i64 g1, .int .i64 g2, .int .i64 g3, .int .i64 g4, .int .i64 g5, .int .i64 g6, .int .i64 g7] 47)).drewN (1 + nq) := ⟨_, rfl⟩
    rw [← hW2]
    have k1 : Lsn W2 p ⟨g1, g2, g3, g4, g5, g6, g7⟩ ⟨1, s2 + 1, s3, s4, s5, s6⟩ bl := by
      rw [hW2]
      show (((w.setCell ⟨p, 10, none⟩ (.int .i64 (s2 + 1))).alloc _).alloc _).heap[p]? = _
      rw [Below.heap_alloc _ _ _ (by simp; omega), Below.heap_alloc _ _ _ (by simpa using hp)]
      exact row_set HL.out 10 _
    have k2 : W2.heap[w.heap.size + 1]? = some (.cells #[.int .i64 g1, .int .i64 g2, .int .i64 g3, .int .i64 g4, .int .i64 g5, .int .i64 g6, .int .i64 g7] 47 (0, 0)) := by
      rw [hW2]
      have := heap_two (w.setCell ⟨p, 10, none⟩ (.int .i64 (s2 + 1))) (.cells #[.int .i64 0, .int .i64 0] 51) (.cells #[.int .i64 g1, .int .i64 g2, .int .i64 g3, .int .i64 g4, .int .i64 g5, .int .i64 g6, .int .i64 g7] 47)
      simpa using this
    have k3 : W2.heap[w.heap.size]? = some (.cells #[.int .i64 0, .int .i64 0] 51 (0, 0)) := by
      rw [hW2]
      have := heap_alloc_new (w.setCell ⟨p, 10, none⟩ (.int .i64 (s2 + 1))) (.cells #[.int .i64 0, .int .i64 0] 51)
      rw [show (w.setCell ⟨p, 10, none⟩ (.int .i64 (s2 + 1))).heap.size = w.heap.size by simp [World.setCell]] at this
      exact (Below.heap_alloc _ _ _ (by simp)).trans this
    have k4 : w.grownBy W2 (some p) := by
      rw [hW2]
      exact only_drewN (only_alloc (only_alloc (only_set (World.grownBy.refl _ _) (.inl rfl) _) _) _) _
    clear hW2 c0 c1 c2 c3 c4 c5 c6 c8 c10 c12 c13 c14 hf HL
    have hz := k4.size
    have hpz : p < W2.heap.size := by omega
    have hp1 : p ≠ w.heap.size := by omega
    have hp2 : p ≠ w.heap.size + 1 := by omega
    have c8 : W2.cell? ⟨p, 8, none⟩ = some (.int .i64 1) := cell_of_row W2 p 8 _ _ _ k1
    have c12 : W2.cell? ⟨p, 12, none⟩ = some (.int .i64 s4) := cell_of_row W2 p 12 _ _ _ k1
    have c13 : W2.cell? ⟨p, 13, none⟩ = some (.int .i64 s5) := cell_of_row W2 p 13 _ _ _ k1
    have c14 : W2.cell? ⟨p, 14, none⟩ = some (.int .i64 s6) := cell_of_row W2 p 14 _ _ _ k1
    have d0 : W2.cell? ⟨w.heap.size + 1, 0, none⟩ = some (.int .i64 g1) := cell_of_row W2 _ 0 _ _ _ k2
    have d4 : W2.cell? ⟨w.heap.size + 1, 4, none⟩ = some (.int .i64 g5) := cell_of_row W2 _ 4 _ _ _ k2
    have d6 : W2.cell? ⟨w.heap.size + 1, 6, none⟩ = some (.int .i64 g7) := cell_of_row W2 _ 6 _ _ _ k2
    have e0 : W2.cell? ⟨w.heap.size, 0, none⟩ = some (.int .i64 0) := cell_of_row W2 _ 0 _ _ _ k3
    have e1 : W2.cell? ⟨w.heap.size, 1, none⟩ = some (.int .i64 0) := cell_of_row W2 _ 1 _ _ _ k3
    have f8 := row_frozen k1 8
    have f12 := row_frozen k1 12
    have f14 := row_frozen k1 14
    have fe0 := row_frozen k3 0
    have fe1 := row_frozen k3 1
    have K1 := Lib.hid k1
    have K3 := Lib.hid k3
    have K2 := Lib.hid k2
    clear k1 k2 k3
    refine (next_is s4 qt R _ b3 (by omega) HR).mono ?_
    rintro e w' ⟨rfl, rfl⟩
    by_cases hR : R = g5
    · have q1 : (R == g5) = true := by simp [hR]
      have HRG := Lib.hid hR
      clear hR
      go_wp2_with fail
      go_quiet (fail)
      go_wp2_with fail
      obtain ⟨W3, hW3⟩ : ∃ W3 : World, W3 = (((((W2.setCell ⟨p, 12, none⟩ (.int .i64 R)).drewN nq).setCell ⟨p, 14, none⟩ (.int .i64 (s2 - g5 + 1))).setCell ⟨p, 8, none⟩ (.int .i64 0)).setCell ⟨p, 12, none⟩ (.int .i64 0)) := ⟨_, rfl⟩
      rw [← hW3]
      have j1 : Lsn W3 p ⟨g1, g2, g3, g4, g5, g6, g7⟩ ⟨0, s2 + 1, s3, 0, s5, s2 - g5 + 1⟩ bl := by
        rw [hW3]; exact row_set (row_set (row_set (w := (W2.setCell ⟨p, 12, none⟩ (.int .i64 R)).drewN nq) (row_set K1.out 12 _) 14 _) 8 _) 12 _
      have j4 : w.grownBy W3 (some p) := by
        rw [hW3]; exact only_set (only_set (only_set (only_drewN (only_set k4 (.inl rfl) _) _) (.inl rfl) _) (.inl rfl) _) (.inl rfl) _
      have j3 : W3.heap[w.heap.size]? = some (.cells #[.int .i64 0, .int .i64 0] 51 (0, 0)) := by
        rw [hW3]; exact (Below.heap_setCell _ _ _ _ (Ne.symm hp1)).trans ((Below.heap_setCell _ _ _ _ (Ne.symm hp1)).trans ((Below.heap_setCell _ _ _ _ (Ne.symm hp1)).trans ((Below.heap_setCell _ _ _ _ (Ne.symm hp1)).trans K3.out)))
      have j2 : W3.heap[w.heap.size + 1]? = some (.cells #[.int .i64 g1, .int .i64 g2, .int .i64 g3, .int .i64 g4, .int .i64 g5, .int .i64 g6, .int .i64 g7] 47 (0, 0)) := by
        rw [hW3]; exact (Below.heap_setCell _ _ _ _ (Ne.symm hp2)).trans ((Below.heap_setCell _ _ _ _ (Ne.symm hp2)).trans ((Below.heap_setCell _ _ _ _ (Ne.symm hp2)).trans ((Below.heap_setCell _ _ _ _ (Ne.symm hp2)).trans K2.out)))
      clear hW3 c8 c12 c13 c14 d0 d4 d6 e0 e1 f8 f12 f14 fe0 fe1 K1 K2 K3 hz hpz k4
      have c13 : W3.cell? ⟨p, 13, none⟩ = some (.int .i64 s5) := cell_of_row W3 p 13 _ _ _ j1
      have c14 : W3.cell? ⟨p, 14, none⟩ = some (.int .i64 (s2 - g5 + 1)) := cell_of_row W3 p 14 _ _ _ j1
      have d0 : W3.cell? ⟨w.heap.size + 1, 0, none⟩ = some (.int .i64 g1) := cell_of_row W3 _ 0 _ _ _ j2
      have e0 : W3.cell? ⟨w.heap.size, 0, none⟩ = some (.int .i64 0) := cell_of_row W3 _ 0 _ _ _ j3
      have e1 : W3.cell? ⟨w.heap.size, 1, none⟩ = some (.int .i64 0) := cell_of_row W3 _ 1 _ _ _ j3
      have fe0 := row_frozen j3 0
      have fe1 := row_frozen j3 1
      have J1 := Lib.hid j1
      clear j1 j2 j3
      go_region_held3 (fun w' => w'.cell? ⟨p, 13, none⟩ = some (.int .i64 s5) ∧ w'.cell? ⟨p, 14, none⟩ = some (.int .i64 (s2 - g5 + 1)) ∧ w'.cell? ⟨w.heap.size + 1, 0, none⟩ = some (.int .i64 g1)) (simp [go_sem, *]) (fail)
      all_goals
        go_wp2_with fail
        have hst := Ls.step_speech_fall (s := ⟨1, s2, s3, s4, s5, s6⟩) (g := ⟨g1, g2, g3, g4, g5, g6, g7⟩) (by simp) HQT.out HR.out HRG.out
        have hsg2 := hsg.out
        rw [hst] at hsg2
        cases en with
        | false => simp at hsg2
        | true =>
          obtain ⟨hs2, _⟩ := hsg2
          simp only [if_true, Option.some.injEq] at hs2
          subst hs2
          refine bodyPost_ret (v := .tuple #[.agg #[.int .i64 (s5 * g1), .int .i64 ((s2 - g5 + 1) * g1)], .bool true]) (by simp [results, Try.results39, go_sem, e0, e1]) rfl ⟨rfl, ?_, ?_⟩
          · rw [hst]
            unfold Lsn
            exact (Below.heap_setCell _ _ _ _ hp1).trans ((Below.heap_setCell _ _ _ _ hp1).trans J1.out)
          · exact only_drew (only_set (only_set j4 (.inr (Nat.le_refl _)) _) (.inr (Nat.le_refl _)) _)
    · have q1 : (R == g5) = false := by simp [hR]
      have HRG := Lib.hid hR
      clear hR
      go_wp2_with fail
      go_quiet (fail)
      go_wp2_with fail
      obtain ⟨V, hV⟩ : ∃ V : World, V = (W2.setCell ⟨p, 12, none⟩ (.int .i64 R)).drewN nq := ⟨_, rfl⟩
      rw [← hV]
      have v1 : Lsn V p ⟨g1, g2, g3, g4, g5, g6, g7⟩ ⟨1, s2 + 1, s3, R, s5, s6⟩ bl := by
        rw [hV]; exact row_set (w := W2) K1.out 12 _
      have V4 : w.grownBy V (some p) := by
        rw [hV]; exact only_drewN (only_set k4 (.inl rfl) _) _
      have v3 : V.heap[w.heap.size]? = some (.cells #[.int .i64 0, .int .i64 0] 51 (0, 0)) := by
        rw [hV]; exact (Below.heap_setCell _ _ _ _ (Ne.symm hp1)).trans K3.out
      have v2 : V.heap[w.heap.size + 1]? = some (.cells #[.int .i64 g1, .int .i64 g2, .int .i64 g3, .int .i64 g4, .int .i64 g5, .int .i64 g6, .int .i64 g7] 47 (0, 0)) := by
        rw [hV]; exact (Below.heap_setCell _ _ _ _ (Ne.symm hp2)).trans K2.out
      clear hV c8 c12 c13 c14 d0 d4 d6 e0 e1 f8 f12 f14 fe0 fe1 K1 K2 K3 hz hpz k4
      have c8 : V.cell? ⟨p, 8, none⟩ = some (.int .i64 1) := cell_of_row V p 8 _ _ _ v1
      have c12 : V.cell? ⟨p, 12, none⟩ = some (.int .i64 R) := cell_of_row V p 12 _ _ _ v1
      have c13 : V.cell? ⟨p, 13, none⟩ = some (.int .i64 s5) := cell_of_row V p 13 _ _ _ v1
      have c14 : V.cell? ⟨p, 14, none⟩ = some (.int .i64 s6) := cell_of_row V p 14 _ _ _ v1
      have d0 : V.cell? ⟨w.heap.size + 1, 0, none⟩ = some (.int .i64 g1) := cell_of_row V _ 0 _ _ _ v2
      have d4 : V.cell? ⟨w.heap.size + 1, 4, none⟩ = some (.int .i64 g5) := cell_of_row V _ 4 _ _ _ v2
      have d6 : V.cell? ⟨w.heap.size + 1, 6, none⟩ = some (.int .i64 g7) := cell_of_row V _ 6 _ _ _ v2
      have e0 : V.cell? ⟨w.heap.size, 0, none⟩ = some (.int .i64 0) := cell_of_row V _ 0 _ _ _ v3
      have e1 : V.cell? ⟨w.heap.size, 1, none⟩ = some (.int .i64 0) := cell_of_row V _ 1 _ _ _ v3
      have f8 := row_frozen v1 8
      have f12 := row_frozen v1 12
      have f14 := row_frozen v1 14
      have fe0 := row_frozen v3 0
      have fe1 := row_frozen v3 1
      have V1 := Lib.hid v1
      have V2 := Lib.hid v2
      have V3 := Lib.hid v3
      clear v1 v2 v3
      by_cases hLg : s2 - s5 + 1 = g7
      · have q2 : (s2 - s5 + 1 == g7) = true := by simp [hLg]
        have HLG := Lib.hid hLg
        clear hLg
        go_quiet (fail)
        go_wp2_with fail
        obtain ⟨W3, hW3⟩ : ∃ W3 : World, W3 = ((((V.drewN nq).setCell ⟨p, 14, none⟩ (.int .i64 (s2 + 1))).setCell ⟨p, 8, none⟩ (.int .i64 0)).setCell ⟨p, 12, none⟩ (.int .i64 0)) := ⟨_, rfl⟩
        rw [← hW3]
        have j1 : Lsn W3 p ⟨g1, g2, g3, g4, g5, g6, g7⟩ ⟨0, s2 + 1, s3, 0, s5, s2 + 1⟩ bl := by
          rw [hW3]; exact row_set (row_set (row_set (w := V.drewN nq) V1.out 14 _) 8 _) 12 _
        have j4 : w.grownBy W3 (some p) := by
          rw [hW3]; exact only_set (only_set (only_set (only_drewN V4 _) (.inl rfl) _) (.inl rfl) _) (.inl rfl) _
        have j3 : W3.heap[w.heap.size]? = some (.cells #[.int .i64 0, .int .i64 0] 51 (0, 0)) := by
          rw [hW3]; exact (Below.heap_setCell _ _ _ _ (Ne.symm hp1)).trans ((Below.heap_setCell _ _ _ _ (Ne.symm hp1)).trans ((Below.heap_setCell _ _ _ _ (Ne.symm hp1)).trans V3.out))
        have j2 : W3.heap[w.heap.size + 1]? = some (.cells #[.int .i64 g1, .int .i64 g2, .int .i64 g3, .int .i64 g4, .int .i64 g5, .int .i64 g6, .int .i64 g7] 47 (0, 0)) := by
          rw [hW3]; exact (Below.heap_setCell _ _ _ _ (Ne.symm hp2)).trans ((Below.heap_setCell _ _ _ _ (Ne.symm hp2)).trans ((Below.heap_setCell _ _ _ _ (Ne.symm hp2)).trans V2.out))
        clear hW3 c8 c12 c13 c14 d0 d4 d6 e0 e1 f8 f12 f14 fe0 fe1 V1 V2 V3 V4
        have c13 : W3.cell? ⟨p, 13, none⟩ = some (.int .i64 s5) := cell_of_row W3 p 13 _ _ _ j1
        have c14 : W3.cell? ⟨p, 14, none⟩ = some (.int .i64 (s2 + 1)) := cell_of_row W3 p 14 _ _ _ j1
        have d0 : W3.cell? ⟨w.heap.size + 1, 0, none⟩ = some (.int .i64 g1) := cell_of_row W3 _ 0 _ _ _ j2
        have e0 : W3.cell? ⟨w.heap.size, 0, none⟩ = some (.int .i64 0) := cell_of_row W3 _ 0 _ _ _ j3
        have e1 : W3.cell? ⟨w.heap.size, 1, none⟩ = some (.int .i64 0) := cell_of_row W3 _ 1 _ _ _ j3
        have fe0 := row_frozen j3 0
        have fe1 := row_frozen j3 1
        have J1 := Lib.hid j1
        clear j1 j2 j3
        go_region_held3 (fun w' => w'.cell? ⟨p, 13, none⟩ = some (.int .i64 s5) ∧ w'.cell? ⟨p, 14, none⟩ = some (.int .i64 (s2 + 1)) ∧ w'.cell? ⟨w.heap.size + 1, 0, none⟩ = some (.int .i64 g1)) (simp [go_sem, *]) (fail)
        all_goals
          go_wp2_with fail
          have hst := Ls.step_speech_long (s := ⟨1, s2, s3, s4, s5, s6⟩) (g := ⟨g1, g2, g3, g4, g5, g6, g7⟩) (by simp) HQT.out HR.out HRG.out HLG.out
          have hsg2 := hsg.out
          rw [hst] at hsg2
          cases en with
          | false => simp at hsg2
          | true =>
            obtain ⟨hs2, _⟩ := hsg2
            simp only [if_true, Option.some.injEq] at hs2
            subst hs2
            refine bodyPost_ret (v := .tuple #[.agg #[.int .i64 (s5 * g1), .int .i64 ((s2 + 1) * g1)], .bool true]) (by simp [results, Try.results39, go_sem, e0, e1]) rfl ⟨rfl, ?_, ?_⟩
            · rw [hst]
              unfold Lsn
              exact (Below.heap_setCell _ _ _ _ hp1).trans ((Below.heap_setCell _ _ _ _ hp1).trans J1.out)
            · exact only_drew (only_set (only_set j4 (.inr (Nat.le_refl _)) _) (.inr (Nat.le_refl _)) _)
      · have q2 : (s2 - s5 + 1 == g7) = false := by simp [hLg]
        have HLG := Lib.hid hLg
        clear hLg
        go_quiet (fail)
        go_wp2_with fail
        have hst := Ls.step_speech_on (s := ⟨1, s2, s3, s4, s5, s6⟩) (g := ⟨g1, g2, g3, g4, g5, g6, g7⟩) (by simp) HQT.out HR.out HRG.out HLG.out
        have hsg2 := hsg.out
        rw [hst] at hsg2
        cases en with
        | true => simp at hsg2
        | false =>
          obtain ⟨_, hs2⟩ := hsg2
          obtain rfl := hs2 rfl
          refine bodyPost_ret (v := .tuple #[.agg #[.int .i64 0, .int .i64 0], .bool false]) (by simp [results, Try.results39, go_sem, e0, e1]) rfl ⟨rfl, ?_, ?_⟩
          · rw [hst]
            unfold Lsn
            exact (Below.heap_setCell _ _ _ _ hp1).trans ((Below.heap_setCell _ _ _ _ hp1).trans V1.out)
          · exact only_set (only_set (only_drewN V4 _) (.inr (Nat.le_refl _)) _) (.inr (Nat.le_refl _)) _
end Go.Proofs.Ytnflpnbpigcfhaa
