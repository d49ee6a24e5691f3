/- WaveClips: the walk -/
import Derived.Test.YtnhkngmdjomfjaaKnown
import Derived.Test.YtnhkngmdjomfjaaClipW
import Derived.Test.YtnhkngmdjomfjaaSlcI
import Derived.Test.YtnhkngmdjomfjaaMeas2
namespace Go.Proofs.Ytnhkngmdjomfjaa
open Go.RowKit Ear

attribute [local go_sem ↓] Go.wp_at_zero Go.wp_at_succ

/-- The one operation that may come up, guarded, and the guard is met. -/
theorem wpAnyH_oneG {P : Program} {ops : Array Oper} {Q : Exit → Act → World → Prop} {md : Region.Mode} {S : World → Prop} (i : Nat) {o : Oper} {fuel : Nat} {listed : Array Bool} {a : Act} {w : World} (ho : ops[i]? = some o) (hr : Region.ready md ops listed = [i]) (hw : Region.wanted o (yielded ops a.tmps) = true)
    (h : ∀ K' : Act → World → Prop, Shut (∀ a w, S w → (S w → wpAnyH P md ops Q S fuel (listed.setIfInBounds i true) a w) → K' a w) → Oper.wp P o a w K' Q) : wpAnyH P md ops Q S (fuel + 1) listed a w :=
  wpAnyH_ready hr (by simp) (AllReadyH.cons ho (fun K hK => by
    rw [if_pos hw]; exact h K hK) AllReadyH.nil)

/-- what is wrong with a part of a recording -/
def clpchk (rate : Int) (l : List Int) (s0 s1 : Int) : Int := if chk rate l = 0 then (if s0 < 0 ∨ s1 < s0 ∨ (l.length : Int) < s1 then 2 else 0) else chk rate l

set_option maxRecDepth 100000 in
set_option maxHeartbeats 2000000 in
theorem WaveClips_far (rate : Int) (A : Option Addr) (c : Nat) (l : List Int) (s0 s1 : Int) (w : World) (hb : Hid (decide ((l.length : Int) ≤ 3000 ∨ (200000 < (l.length : Int) ∧ (l.length : Int) < 250000)) = false)) :
    Calls Try.prog 12 #[recV rate A l.length c, segV s0 s1] w fun e w' => e = .returned (.bool true) ∧ Below w.heap.size w w' := by
  go_enter Try.func12, Try.ntmps12
  go_wp2_with fail
  refine (short_any _ _ false hb).mono ?_
  rintro e w0 ⟨rfl, rfl⟩
  go_wp2_with fail
  refine (known2_any _).mono ?_
  rintro e w7 ⟨rfl, hb7⟩
  go_wp2_with fail
  go_ret
  exact ⟨rfl, bel_trans (bel_alloc (bel_alloc (Below.refl _ w) _) _) hb7⟩

set_option maxRecDepth 100000 in
set_option maxHeartbeats 2000000 in
theorem WaveClips_no (rate : Int) (A : Option Addr) (c : Nat) (l : List Int) (s0 s1 : Int) (w : World) (h : Lies w A (ics l)) (hn : l.length ≤ 250000) (hb : Hid (decide ((l.length : Int) ≤ 3000 ∨ (200000 < (l.length : Int) ∧ (l.length : Int) < 250000)) = true)) (r r2 : Int) (hr : Hid (chk rate l = r)) (hne : (r2 != 0) = true)
    (hC : Hid (∀ w, Lies w A (ics l) → Calls Try.prog 42 #[recV rate A l.length c, segV s0 s1] w (RecRet 0 r2 [] w)))
    (hh : ((r == 0) = false ∧ (r != 0) = true ∧ r = r2) ∨ ((r == 0) = true ∧ r2 = 2 ∧ (s0 < 0 ∨ (0 ≤ s0 ∧ s1 < s0) ∨ (0 ≤ s0 ∧ s0 ≤ s1 ∧ (l.length : Int) < s1)))) :
    Calls Try.prog 12 #[recV rate A l.length c, segV s0 s1] w fun e w' => e = .returned (.bool true) ∧ Below w.heap.size w w' := by
  have HL := Lib.hid (fun o o' => (h.alloc (w := w) o).alloc o')
  rcases hh with ⟨h1, h2, rfl⟩ | ⟨h1, rfl, h3 | ⟨h3, h4⟩ | ⟨h3, h4, h5⟩⟩
  all_goals
    go_enter Try.func12, Try.ntmps12
    go_wp2_with fail
    refine (short_any _ _ true hb).mono ?_
    rintro e w0 ⟨rfl, rfl⟩
    go_wp2_with fail
    refine (hC.out _ (HL.out _ _)).mono ?_
    rintro e w1 ⟨A1, c1, rfl, ho1, hb1⟩
    have B1 := Lib.hid (bel_trans (bel_alloc (bel_alloc (Below.refl _ w) _) _) hb1)
    have LL := Lib.hid (((HL.out _ _).below hb1).alloc (.cells #[.int .i64 0, .slice A1 0 c1] 24))
    have R0 := row_keep (row_alloc (heap_alloc_new w _) _) hb1
    have R1 := row_keep (heap_alloc_new (w.alloc (.cells #[.int .i64 rate, .slice A l.length c] 24)) _) hb1
    have q0 := cell_of_row w1 _ 0 _ _ _ R0
    have q1 := cell_of_row w1 _ 1 _ _ _ R0
    have q2 := cell_of_row w1 _ 0 _ _ _ R1
    have q3 := cell_of_row w1 _ 1 _ _ _ R1
    simp at q0 q1 q2 q3
    have hz0 := row_lt R0
    have hz1 := row_lt R1
    simp at hz1
    simp only [List.length_nil]
    clear ho1 hb1
    go_wp2_with fail
    refine (rWrong_any rate A c l _ LL.out (by omega) _ hr).mono ?_
    rintro e w2 ⟨rfl, hb2⟩
    have B2 := Lib.hid (bel_trans (bel_alloc B1.out _) hb2)
    have R1' := row_keep (row_alloc R1 _) hb2
    have R0' := row_keep (row_alloc R0 _) hb2
    have R2 := row_keep (heap_alloc_new w1 _) hb2
    have y1 := cell_of_row w2 _ 1 _ _ _ R0'
    have y2 := cell_of_row w2 _ 0 _ _ _ R1'
    have y3 := cell_of_row w2 _ 1 _ _ _ R1'
    have y4 := cell_of_row w2 _ 0 _ _ _ R2
    have y5 := cell_of_row w2 _ 1 _ _ _ R2
    simp at y1 y2 y3 y4 y5
    clear R0 R1 R0' R1' R2 q0 q1 q2 q3 hz0 hz1 hb2 B1
    go_wp2_with fail
    refine (known2_any _).mono ?_
    rintro e w7 ⟨rfl, hb7⟩
    go_wp2_with fail
    go_ret
    exact ⟨rfl, bel_trans B2.out hb7⟩
set_option maxRecDepth 100000 in
set_option maxHeartbeats 4000000 in
theorem WaveClips_ok (rate : Int) (A : Option Addr) (c : Nat) (l : List Int) (s0 s1 : Int) (A' : Option Addr) (c' : Nat) (out : List Int) (w : World) (h : Lies w A (ics l)) (hl : l.length ≤ 3000) (hb : Hid (decide ((l.length : Int) ≤ 3000 ∨ (200000 < (l.length : Int) ∧ (l.length : Int) < 250000)) = true)) (hr : Hid (chk rate l = 0)) (hout : out.length ≤ 200000)
    (hsl : ∀ w, (Instr.slice 22 (.slice A l.length c) (some (.int .i64 s0)) (some (.int .i64 s1)) none).run Try.prog w = .ok (.slice A' out.length c') w)
    (hcl : Hid (∀ w', Lies w' A (ics l) → Lies w' A' (ics out))) (hA : Hid (A' = none → c' = 0 ∧ out = [])) (d1 : decide (s0 < 0) = false) (d2 : decide (s1 < s0) = false) (d3 : decide ((l.length : Int) < s1) = false) :
    Calls Try.prog 12 #[recV rate A l.length c, segV s0 s1] w fun e w' => e = .returned (.bool true) ∧ Below w.heap.size w w' := by
  have HL := Lib.hid (fun o o' => (h.alloc (w := w) o).alloc o')
  have HSL := Lib.hid hsl
  have HD := Lib.hid (And.intro d1 (And.intro d2 d3))
  clear hsl
  go_enter Try.func12, Try.ntmps12
  go_wp2_with fail
  refine (short_any _ _ true hb).mono ?_
  rintro e w0 ⟨rfl, rfl⟩
  go_wp2_with fail
  refine (Clip_ok rate A c l s0 s1 A' c' out _ (HL.out _ _) (by omega) hr hout HSL.out hcl hA HD.out.1 HD.out.2.1 HD.out.2.2).mono ?_
  rintro e w1 ⟨A1, c1, rfl, ho1, hb1⟩
  have B1 := Lib.hid (bel_trans (bel_alloc (bel_alloc (Below.refl _ w) _) _) hb1)
  have LO := Lib.hid (Lies.of_own ho1)
  have LL := Lib.hid (((HL.out _ _).below hb1).alloc (.cells #[.int .i64 rate, .slice A1 out.length c1] 24))
  have R0 := row_keep (row_alloc (heap_alloc_new w _) _) hb1
  have R1 := row_keep (heap_alloc_new (w.alloc (.cells #[.int .i64 rate, .slice A l.length c] 24)) _) hb1
  have q0 := cell_of_row w1 _ 0 _ _ _ R0
  have q1 := cell_of_row w1 _ 1 _ _ _ R0
  have q2 := cell_of_row w1 _ 0 _ _ _ R1
  have q3 := cell_of_row w1 _ 1 _ _ _ R1
  simp at q0 q1 q2 q3
  have hz0 := row_lt R0
  have hz1 := row_lt R1
  simp at hz1
  clear ho1 hb1
  go_wp2_with fail
  refine (rWrong_any rate A c l _ LL.out (by omega) _ hr).mono ?_
  rintro e w2 ⟨rfl, hb2⟩
  have B2 := Lib.hid (bel_trans (bel_alloc B1.out _) hb2)
  have LO2 := Lib.hid ((LO.out.alloc _).below hb2)
  have LL2 := Lib.hid (LL.out.below hb2)
  have R1' := row_keep (row_alloc R1 _) hb2
  have R0' := row_keep (row_alloc R0 _) hb2
  have R2 := row_keep (heap_alloc_new w1 _) hb2
  have y0 := cell_of_row w2 _ 0 _ _ _ R0'
  have y1 := cell_of_row w2 _ 1 _ _ _ R0'
  have y2 := cell_of_row w2 _ 0 _ _ _ R1'
  have y3 := cell_of_row w2 _ 1 _ _ _ R1'
  have y4 := cell_of_row w2 _ 0 _ _ _ R2
  have y5 := cell_of_row w2 _ 1 _ _ _ R2
  simp at y0 y1 y2 y3 y4 y5
  have zz0 := row_lt R0'
  have zz1 := row_lt R1'
  have zz2 := row_lt R2
  simp at zz1
  clear R0 R1 R0' R1' R2 q0 q1 q2 q3 hz0 hz1 hb2 B1 LL LO
  go_wp2_with fail
  clear d1 d2 d3
  refine wp_region_pop (S := fun w' => w'.cell? ⟨w.heap.size, 0, none⟩ = some (.int .i64 rate) ∧ w'.cell? ⟨w.heap.size, 1, none⟩ = some (.slice A l.length c) ∧ w'.cell? ⟨w.heap.size + 1, 0, none⟩ = some (.int .i64 s0) ∧ w'.cell? ⟨w.heap.size + 1, 1, none⟩ = some (.int .i64 s1) ∧ w'.cell? ⟨w1.heap.size, 0, none⟩ = some (.int .i64 rate) ∧ w'.cell? ⟨w1.heap.size, 1, none⟩ = some (.slice A1 out.length c1)) 24 (by kernel_rfl) (by kernel_rfl) ⟨y0, y1, y2, y3, y4, y5⟩ (fun hHeld => ?_)
  simp only [List.pop_toArray, List.dropLast_cons_cons, List.dropLast_singleton]
  refine wpAnyH_takeD (i := 0) 63 (v := ?_) rfl rfl (by kernel_rfl) (by kernel_rfl) (by kernel_rfl) (fun _ _ _ h => h) ⟨by rfl, ?_⟩ hHeld ?_
  rotate_left
  · intro w' hSw; obtain ⟨hS1, hS2, hS3, hS4, hS5, hS6⟩ := hSw; go_simp; try with_reducible rfl
  simp only [List.setIfInBounds_toArray, List.set_cons_zero, List.set_cons_succ]
  refine wpAnyH_takeD (i := 1) 64 (v := ?_) rfl rfl (by kernel_rfl) (by kernel_rfl) (by kernel_rfl) (fun _ _ _ h => h) ⟨by rfl, ?_⟩ hHeld ?_
  rotate_left
  · intro w' hSw; obtain ⟨hS1, hS2, hS3, hS4, hS5, hS6⟩ := hSw; go_simp; try with_reducible rfl
  simp only [List.setIfInBounds_toArray, List.set_cons_zero, List.set_cons_succ]
  refine wpAnyH_takeD (i := 2) 65 (v := ?_) rfl rfl (by kernel_rfl) (by kernel_rfl) (by kernel_rfl) (fun _ _ _ h => h) ⟨by rfl, ?_⟩ hHeld ?_
  rotate_left
  · intro w' hSw; obtain ⟨hS1, hS2, hS3, hS4, hS5, hS6⟩ := hSw; go_simp; try with_reducible rfl
  simp only [List.setIfInBounds_toArray, List.set_cons_zero, List.set_cons_succ]
  refine wpAnyH_takeD (i := 3) 66 (v := ?_) rfl rfl (by kernel_rfl) (by kernel_rfl) (by kernel_rfl) (fun _ _ _ h => h) ⟨by rfl, ?_⟩ hHeld ?_
  rotate_left
  · intro w' hSw; obtain ⟨hS1, hS2, hS3, hS4, hS5, hS6⟩ := hSw; go_simp; try with_reducible rfl
  simp only [List.setIfInBounds_toArray, List.set_cons_zero, List.set_cons_succ]
  refine wpAnyH_takeD (i := 4) 67 (v := ?_) rfl rfl (by kernel_rfl) (by kernel_rfl) (by kernel_rfl) (fun _ _ _ h => h) ⟨by rfl, ?_⟩ hHeld ?_
  rotate_left
  · intro w' hSw; obtain ⟨hS1, hS2, hS3, hS4, hS5, hS6⟩ := hSw; go_simp; try with_reducible rfl
  simp only [List.setIfInBounds_toArray, List.set_cons_zero, List.set_cons_succ]
  refine wpAnyH_takeD (i := 5) 68 (v := ?_) rfl rfl (by kernel_rfl) (by kernel_rfl) (by kernel_rfl) (fun _ _ _ h => h) ⟨by rfl, ?_⟩ hHeld ?_
  rotate_left
  · intro w' hSw; obtain ⟨hS1, hS2, hS3, hS4, hS5, hS6⟩ := hSw; go_simp; try with_reducible rfl
  simp only [List.setIfInBounds_toArray, List.set_cons_zero, List.set_cons_succ]
  refine wpAnyH_takeD (i := 6) 69 (v := ?_) rfl rfl (by kernel_rfl) (by kernel_rfl) (by kernel_rfl) (fun _ _ _ h => h) ⟨by rfl, ?_⟩ hHeld ?_
  rotate_left
  · intro w' hSw; obtain ⟨hS1, hS2, hS3, hS4, hS5, hS6⟩ := hSw; go_simp; try with_reducible rfl
  simp only [List.setIfInBounds_toArray, List.set_cons_zero, List.set_cons_succ]
  refine wpAnyH_takeD (i := 7) 70 (v := ?_) rfl rfl (by kernel_rfl) (by kernel_rfl) (by kernel_rfl) (fun _ _ _ h => h) ⟨by rfl, ?_⟩ hHeld ?_
  rotate_left
  · intro w' hSw; obtain ⟨hS1, hS2, hS3, hS4, hS5, hS6⟩ := hSw; go_simp; try with_reducible rfl
  simp only [List.setIfInBounds_toArray, List.set_cons_zero, List.set_cons_succ]
  refine wpAnyH_takeD (i := 8) 71 (v := ?_) rfl rfl (by kernel_rfl) (by kernel_rfl) (by kernel_rfl) (fun _ _ _ h => h) ⟨by rfl, ?_⟩ hHeld ?_
  rotate_left
  · intro w' hSw; obtain ⟨hS1, hS2, hS3, hS4, hS5, hS6⟩ := hSw; go_simp; try with_reducible rfl
  simp only [List.setIfInBounds_toArray, List.set_cons_zero, List.set_cons_succ]
  refine wpAnyH_takeD (i := 9) 72 (v := ?_) rfl rfl (by kernel_rfl) (by kernel_rfl) (by kernel_rfl) (fun _ _ _ h => h) ⟨by rfl, ?_⟩ hHeld ?_
  rotate_left
  · intro w' hSw; obtain ⟨hS1, hS2, hS3, hS4, hS5, hS6⟩ := hSw; go_simp; try with_reducible rfl
  simp only [List.setIfInBounds_toArray, List.set_cons_zero, List.set_cons_succ]
  refine wpAnyH_takeD (i := 10) 73 (v := ?_) rfl rfl (by kernel_rfl) (by kernel_rfl) (by kernel_rfl) (fun _ _ _ h => h) ⟨by rfl, ?_⟩ hHeld ?_
  rotate_left
  · intro w' hSw; obtain ⟨hS1, hS2, hS3, hS4, hS5, hS6⟩ := hSw; go_simp; try with_reducible rfl
  simp only [List.setIfInBounds_toArray, List.set_cons_zero, List.set_cons_succ]
  refine wpAnyH_takeD (i := 11) 74 (v := ?_) rfl rfl (by kernel_rfl) (by kernel_rfl) (by kernel_rfl) (fun _ _ _ h => h) ⟨by rfl, ?_⟩ hHeld ?_
  rotate_left
  · intro w' hSw; obtain ⟨hS1, hS2, hS3, hS4, hS5, hS6⟩ := hSw; go_simp; try with_reducible rfl
  simp only [List.setIfInBounds_toArray, List.set_cons_zero, List.set_cons_succ]
  refine wpAnyH_takeD (i := 12) 75 (v := ?_) rfl rfl (by kernel_rfl) (by kernel_rfl) (by kernel_rfl) (fun _ _ _ h => h) ⟨by rfl, ?_⟩ hHeld ?_
  rotate_left
  · intro w' hSw; obtain ⟨hS1, hS2, hS3, hS4, hS5, hS6⟩ := hSw; go_simp; try with_reducible rfl
  simp only [List.setIfInBounds_toArray, List.set_cons_zero, List.set_cons_succ]
  refine wpAnyH_takeD (i := 13) 76 (v := ?_) rfl rfl (by kernel_rfl) (by kernel_rfl) (by kernel_rfl) (fun _ _ _ h => h) ⟨by rfl, ?_⟩ hHeld ?_
  rotate_left
  · intro w' hSw; obtain ⟨hS1, hS2, hS3, hS4, hS5, hS6⟩ := hSw; go_simp; try with_reducible rfl
  simp only [List.setIfInBounds_toArray, List.set_cons_zero, List.set_cons_succ]
  refine wpAnyH_takeD (i := 14) 77 (v := ?_) rfl rfl (by kernel_rfl) (by kernel_rfl) (by kernel_rfl) (fun _ _ _ h => h) ⟨by rfl, ?_⟩ hHeld ?_
  rotate_left
  · intro w' hSw; obtain ⟨hS1, hS2, hS3, hS4, hS5, hS6⟩ := hSw; go_simp; try with_reducible rfl
  simp only [List.setIfInBounds_toArray, List.set_cons_zero, List.set_cons_succ]
  refine wpAnyH_takeD (i := 15) 78 (v := ?_) rfl rfl (by kernel_rfl) (by kernel_rfl) (by kernel_rfl) (fun _ _ _ h => h) ⟨by rfl, ?_⟩ hHeld ?_
  rotate_left
  · intro w' hSw; obtain ⟨hS1, hS2, hS3, hS4, hS5, hS6⟩ := hSw; go_simp; try with_reducible rfl
  simp only [List.setIfInBounds_toArray, List.set_cons_zero, List.set_cons_succ]
  refine wpAnyH_takeD (i := 16) 79 (v := ?_) rfl rfl (by kernel_rfl) (by kernel_rfl) (by kernel_rfl) (fun _ _ _ h => h) ⟨by rfl, ?_⟩ hHeld ?_
  rotate_left
  · intro w' hSw; obtain ⟨hS1, hS2, hS3, hS4, hS5, hS6⟩ := hSw; go_simp; try with_reducible rfl
  simp only [List.setIfInBounds_toArray, List.set_cons_zero, List.set_cons_succ]
  refine wpAnyH_takeD (i := 17) 80 (v := ?_) rfl rfl (by kernel_rfl) (by kernel_rfl) (by kernel_rfl) (fun _ _ _ h => h) ⟨by rfl, ?_⟩ hHeld ?_
  rotate_left
  · intro w' hSw; obtain ⟨hS1, hS2, hS3, hS4, hS5, hS6⟩ := hSw; go_simp; try with_reducible rfl
  simp only [List.setIfInBounds_toArray, List.set_cons_zero, List.set_cons_succ]
  have hsl := HSL.out
  refine wpAnyH_takeD (i := 18) 81 (v := ?_) rfl rfl (by kernel_rfl) (by kernel_rfl) (by kernel_rfl) (fun _ _ _ h => h) ⟨by rfl, ?_⟩ hHeld ?_
  rotate_left
  · intro w' hSw; obtain ⟨hS1, hS2, hS3, hS4, hS5, hS6⟩ := hSw; go_simp; try with_reducible rfl
  simp only [List.setIfInBounds_toArray, List.set_cons_zero, List.set_cons_succ]
  clear hsl
  refine wpAnyH_oneG 19 rfl (by kernel_rfl) (by rfl) (fun K hK => ?_)
  go_simp
  with_reducible refine (same_bel A1 A' c1 c' out out _ LO2.out.drew (hcl.out _ LL2.out.drew) (by omega) (by omega) true (Lib.hid (by simp))).mono ?_
  rintro e w3 ⟨rfl, hb3⟩
  have B3 := Lib.hid (bel_trans B2.out (show Below w2.heap.size w2 w3 from ⟨hb3.os, hb3.tape, hb3.output, hb3.size, hb3.block⟩))
  have x0 := (hb3.cell (p := ⟨w.heap.size, 0, none⟩) zz0).trans y0
  have x1 := (hb3.cell (p := ⟨w.heap.size, 1, none⟩) zz0).trans y1
  have x2 := (hb3.cell (p := ⟨w.heap.size + 1, 0, none⟩) zz1).trans y2
  have x3 := (hb3.cell (p := ⟨w.heap.size + 1, 1, none⟩) zz1).trans y3
  have x4 := (hb3.cell (p := ⟨w1.heap.size, 0, none⟩) zz2).trans y4
  have x5 := (hb3.cell (p := ⟨w1.heap.size, 1, none⟩) zz2).trans y5
  have hz3 : w2.heap.size ≤ w3.heap.size := hb3.size
  refine hK.out _ _ ⟨x0, x1, x2, x3, x4, x5⟩ (fun hHeld => ?_)
  clear hK K y0 y1 y2 y3 y4 y5 hb3 B2
  refine wpAnyH_takeD (i := 20) 83 (v := ?_) rfl rfl (by kernel_rfl) (by kernel_rfl) (by kernel_rfl) (fun _ _ _ h => h) ⟨by rfl, ?_⟩ hHeld ?_
  rotate_left
  · intro w' hSw; obtain ⟨hS1, hS2, hS3, hS4, hS5, hS6⟩ := hSw; go_simp; try with_reducible rfl
  simp only [List.setIfInBounds_toArray, List.set_cons_zero, List.set_cons_succ]
  refine wpAnyH_takeD (i := 21) 84 (v := ?_) rfl rfl (by kernel_rfl) (by kernel_rfl) (by kernel_rfl) (fun _ _ _ h => h) ⟨by rfl, ?_⟩ hHeld ?_
  rotate_left
  · intro w' hSw; obtain ⟨hS1, hS2, hS3, hS4, hS5, hS6⟩ := hSw; go_simp; try with_reducible rfl
  simp only [List.setIfInBounds_toArray, List.set_cons_zero, List.set_cons_succ]
  refine wpAnyH_oneG 22 rfl (by kernel_rfl) (by rfl) (fun K hK => ?_)
  go_simp
  with_reducible refine (known2_any _).mono ?_
  rintro e w4 ⟨rfl, hb4⟩
  have B4 := Lib.hid (bel_trans B3.out hb4)
  refine hK.out _ _ ⟨(hb4.cell (p := ⟨w.heap.size, 0, none⟩) (Nat.lt_of_lt_of_le zz0 hz3)).trans x0, (hb4.cell (p := ⟨w.heap.size, 1, none⟩) (Nat.lt_of_lt_of_le zz0 hz3)).trans x1, (hb4.cell (p := ⟨w.heap.size + 1, 0, none⟩) (Nat.lt_of_lt_of_le zz1 hz3)).trans x2, (hb4.cell (p := ⟨w.heap.size + 1, 1, none⟩) (Nat.lt_of_lt_of_le zz1 hz3)).trans x3, (hb4.cell (p := ⟨w1.heap.size, 0, none⟩) (Nat.lt_of_lt_of_le zz2 hz3)).trans x4, (hb4.cell (p := ⟨w1.heap.size, 1, none⟩) (Nat.lt_of_lt_of_le zz2 hz3)).trans x5⟩ (fun hHeld => ?_)
  clear hK K
  refine wpAnyH_takeD (i := 23) 86 (v := ?_) rfl rfl (by kernel_rfl) (by kernel_rfl) (by kernel_rfl) (fun _ _ _ h => h) ⟨by rfl, ?_⟩ hHeld ?_
  rotate_left
  · intro w' hSw; obtain ⟨hS1, hS2, hS3, hS4, hS5, hS6⟩ := hSw; go_simp; try with_reducible rfl
  simp only [List.setIfInBounds_toArray, List.set_cons_zero, List.set_cons_succ]
  refine wpAnyH_done (by kernel_rfl) ?_ _
  refine PopQ.last rfl rfl (fun K hK => ?_)
  go_simp
  refine hK _ _ ?_
  clear hK K
  go_wp2_with fail
  go_ret
  exact ⟨rfl, B4.out⟩

theorem WaveClips_any (rate : Int) (A : Option Addr) (c : Nat) (l : List Int) (s0 s1 : Int) (w : World) (h : Lies w A (ics l)) (hA : A = none → c = 0 ∧ l = []) (hlc : l.length ≤ c) :
    Calls Try.prog 12 #[recV rate A l.length c, segV s0 s1] w fun e w' => e = .returned (.bool true) ∧ Below w.heap.size w w' := by
  cases hb : decide ((l.length : Int) ≤ 3000 ∨ (200000 < (l.length : Int) ∧ (l.length : Int) < 250000)) with
  | false => exact WaveClips_far rate A c l s0 s1 w (Lib.hid hb)
  | true =>
    have hn : l.length ≤ 250000 := by simp at hb; omega
    by_cases hr : chk rate l = 0
    · have hlen := (chk_ok.1 hr).1
      by_cases hs : s0 < 0 ∨ s1 < s0 ∨ (l.length : Int) < s1
      · have hs' : s0 < 0 ∨ (0 ≤ s0 ∧ s1 < s0) ∨ (0 ≤ s0 ∧ s0 ≤ s1 ∧ (l.length : Int) < s1) := by omega
        exact WaveClips_no rate A c l s0 s1 w h hn (Lib.hid hb) 0 2 (Lib.hid hr) (by decide) (Lib.hid fun w h => Clip_arg rate A c l s0 s1 w h hlen (Lib.hid hr) hs') (.inr ⟨rfl, rfl, hs'⟩)
      · obtain ⟨f, rfl⟩ := Int.eq_ofNat_of_zero_le (show 0 ≤ s0 by omega)
        obtain ⟨t, rfl⟩ := Int.eq_ofNat_of_zero_le (show 0 ≤ s1 by omega)
        have h1 : f ≤ t := by omega
        have h2 : t ≤ l.length := by omega
        have h3 := cut_length h1 h2
        exact WaveClips_ok rate A c l f t (cutA A f c) (c - f) ((l.drop f).take (t - f)) w h (by simp at hb; omega) (Lib.hid hb) (Lib.hid hr) (by omega) (fun w => by rw [h3]; exact run_cut A l.length c f t h1 (by omega) w) (Lib.hid fun w' h => h.cut h1 h2 hlc) (Lib.hid (cutA_none hA)) (by simp) (by simp; omega) (by simp; omega)
    · exact WaveClips_no rate A c l s0 s1 w h hn (Lib.hid hb) _ _ (Lib.hid rfl) (by simp [hr]) (Lib.hid fun w h => Clip_chk rate A c l s0 s1 w h (by omega) _ (Lib.hid rfl) (by simp [hr])) (.inl ⟨by simp [hr], by simp [hr], rfl⟩)
end Go.Proofs.Ytnhkngmdjomfjaa
