/- wave.Clip -/
import Derived.Test.YtnhkngmdjomfjaaEmph
namespace Go.Proofs.Ytnhkngmdjomfjaa
open Go.RowKit Ear

attribute [local go_sem ↓] Go.wp_at_zero Go.wp_at_succ

/-- a segment as a value -/
abbrev segV (x y : Int) : Value := .agg #[.int .i64 x, .int .i64 y]

set_option maxHeartbeats 1000000 in
theorem Clip_chk (rate : Int) (A : Option Addr) (c : Nat) (l : List Int) (s0 s1 : Int) (w : World) (h : Lies w A (ics l)) (hn : l.length ≤ 9223372036854775807) (r : Int) (hr : Hid (chk rate l = r)) (h0 : (r != 0) = true) :
    Calls Try.prog 42 #[recV rate A l.length c, segV s0 s1] w (RecRet 0 r [] w) := by
  have HL := Lib.hid (fun o o' o'' => ((h.alloc (w := w) o).alloc o').alloc o'')
  go_enter Try.func42, Try.ntmps42
  go_wp2_with fail
  refine (check_any rate A c l _ (HL.out _ _ _) hn _ hr).mono ?_
  rintro e w1 ⟨rfl, hb⟩
  obtain ⟨hc, hf⟩ := bcell hb
  go_wp2_with fail
  refine bodyPost_ret (v := .tuple #[.agg #[.int .i64 0, .slice none 0 0], .int .i64 r]) (by simp [results, Try.results42, go_sem, hc]) rfl (RecRet.none_ rfl ?_)
  have hb0 : Below w.heap.size w w1 := ((((Below.refl _ _).alloc (Nat.le_refl _) _).alloc (by simp) _).alloc (by simp; omega) _).trans (hb.mono (by simp; omega))
  exact (hb0.setCell (by simp; omega) _).setCell (by simp; omega) _

set_option maxHeartbeats 1000000 in
theorem Clip_arg (rate : Int) (A : Option Addr) (c : Nat) (l : List Int) (s0 s1 : Int) (w : World) (h : Lies w A (ics l)) (hn : l.length ≤ 200000) (hr : Hid (chk rate l = 0))
    (hh : s0 < 0 ∨ (0 ≤ s0 ∧ s1 < s0) ∨ (0 ≤ s0 ∧ s0 ≤ s1 ∧ (l.length : Int) < s1)) :
    Calls Try.prog 42 #[recV rate A l.length c, segV s0 s1] w (RecRet 0 2 [] w) := by
  have HL := Lib.hid (fun o o' o'' => ((h.alloc (w := w) o).alloc o').alloc o'')
  rcases hh with h1 | ⟨h1, h2⟩ | ⟨h1, h2, h3⟩
  all_goals
    go_enter Try.func42, Try.ntmps42
    go_wp2_with fail
    refine (check_any rate A c l _ (HL.out _ _ _) (by omega) _ hr).mono ?_
    rintro e w1 ⟨rfl, hb⟩
    obtain ⟨hc, hf⟩ := bcell hb
    go_wp2_with fail
    refine bodyPost_ret (v := .tuple #[.agg #[.int .i64 0, .slice none 0 0], .int .i64 2]) (by simp [results, Try.results42, go_sem, hc]) rfl (RecRet.none_ rfl ?_)
    have hb0 : Below w.heap.size w w1 := ((((Below.refl _ _).alloc (Nat.le_refl _) _).alloc (by simp) _).alloc (by simp; omega) _).trans (hb.mono (by simp; omega))
    exact (hb0.setCell (by simp; omega) _).setCell (by simp; omega) _

set_option maxRecDepth 100000 in
set_option maxHeartbeats 2000000 in
theorem Clip_ok (rate : Int) (A : Option Addr) (c : Nat) (l : List Int) (s0 s1 : Int) (A' : Option Addr) (c' : Nat) (out : List Int) (w : World) (h : Lies w A (ics l)) (hn : l.length ≤ 200000) (hr : Hid (chk rate l = 0)) (hout : out.length ≤ 200000)
    (hsl : ∀ w, (Instr.slice 22 (.slice A l.length c) (some (.int .i64 s0)) (some (.int .i64 s1)) none).run Try.prog w = .ok (.slice A' out.length c') w)
    (hcl : Hid (∀ w', Lies w' A (ics l) → Lies w' A' (ics out))) (hA : Hid (A' = none → c' = 0 ∧ out = [])) (d1 : decide (s0 < 0) = false) (d2 : decide (s1 < s0) = false) (d3 : decide ((l.length : Int) < s1) = false) :
    Calls Try.prog 42 #[recV rate A l.length c, segV s0 s1] w (RecRet rate 0 out w) := by
  have HL := Lib.hid (fun o o' o'' => ((h.alloc (w := w) o).alloc o').alloc o'')
  have HSL := Lib.hid hsl
  clear hsl
  go_enter Try.func42, Try.ntmps42
  go_wp2_with fail
  refine (check_any rate A c l _ (HL.out _ _ _) (by omega) _ hr).mono ?_
  rintro e w1 ⟨rfl, hb⟩
  have L1 := Lib.hid ((HL.out _ _ _).below hb)
  obtain ⟨hc, hf⟩ := bcell hb
  have hz := hb.size
  simp at hz
  have hz2 : w.heap.size + 2 < w1.heap.size := by omega
  have c00 : w1.cell? ⟨w.heap.size, 0, none⟩ = some (.int .i64 rate) := by rw [hc _ _ (by simp; omega)]; simp [go_sem]
  have c01 : w1.cell? ⟨w.heap.size, 1, none⟩ = some (.slice A l.length c) := by rw [hc _ _ (by simp; omega)]; simp [go_sem]
  have c10 : w1.cell? ⟨w.heap.size + 1, 0, none⟩ = some (.int .i64 s0) := by rw [hc _ _ (by simp <;> omega)]; simp [go_sem]
  have c11 : w1.cell? ⟨w.heap.size + 1, 1, none⟩ = some (.int .i64 s1) := by rw [hc _ _ (by simp <;> omega)]; simp [go_sem]
  have c20 : w1.cell? ⟨w.heap.size + 1 + 1, 0, none⟩ = some (.int .i64 0) := by rw [hc _ _ (by simp)]; simp [go_sem]
  have c21 : w1.cell? ⟨w.heap.size + 1 + 1, 1, none⟩ = some (.slice none 0 0) := by rw [hc _ _ (by simp)]; simp [go_sem]
  have f20 : w1.frozen? ⟨w.heap.size + 1 + 1, 0, none⟩ = false := by rw [hf _ _ (by simp)]; simp [go_sem]
  have f21 : w1.frozen? ⟨w.heap.size + 1 + 1, 1, none⟩ = false := by rw [hf _ _ (by simp)]; simp [go_sem]
  have hb0 : Below w.heap.size w w1 := ((((Below.refl _ _).alloc (Nat.le_refl _) _).alloc (by simp) _).alloc (by simp; omega) _).trans (hb.mono (by simp; omega))
  have HB0 := Lib.hid hb0
  clear hc hf hb hz hb0
  go_wp2_with fail
  clear d1 d2 d3
  refine wp_region_pop (S := fun w' => w'.cell? ⟨w.heap.size, 0, none⟩ = some (.int .i64 rate) ∧ w'.cell? ⟨w.heap.size, 1, none⟩ = some (.slice A l.length c) ∧ w'.cell? ⟨w.heap.size + 1, 0, none⟩ = some (.int .i64 s0) ∧ w'.cell? ⟨w.heap.size + 1, 1, none⟩ = some (.int .i64 s1)) 12 (by kernel_rfl) (by kernel_rfl) ⟨c00, c01, c10, c11⟩ (fun hHeld => ?_)
  simp only [List.pop_toArray, List.dropLast_cons_cons, List.dropLast_singleton]
  refine wpAnyH_takeD (i := 0) 32 (v := ?_) rfl rfl (by kernel_rfl) (by kernel_rfl) (by kernel_rfl) (fun _ _ _ h => h) ⟨by rfl, ?_⟩ hHeld ?_
  rotate_left
  · intro w' hSw; obtain ⟨hS1, hS2, hS3, hS4⟩ := hSw; go_simp; try with_reducible rfl
  simp only [List.setIfInBounds_toArray, List.set_cons_zero, List.set_cons_succ]
  refine wpAnyH_takeD (i := 1) 33 (v := ?_) rfl rfl (by kernel_rfl) (by kernel_rfl) (by kernel_rfl) (fun _ _ _ h => h) ⟨by rfl, ?_⟩ hHeld ?_
  rotate_left
  · intro w' hSw; obtain ⟨hS1, hS2, hS3, hS4⟩ := hSw; go_simp; try with_reducible rfl
  simp only [List.setIfInBounds_toArray, List.set_cons_zero, List.set_cons_succ]
  refine wpAnyH_takeD (i := 2) 34 (v := ?_) rfl rfl (by kernel_rfl) (by kernel_rfl) (by kernel_rfl) (fun _ _ _ h => h) ⟨by rfl, ?_⟩ hHeld ?_
  rotate_left
  · intro w' hSw; obtain ⟨hS1, hS2, hS3, hS4⟩ := hSw; go_simp; try with_reducible rfl
  simp only [List.setIfInBounds_toArray, List.set_cons_zero, List.set_cons_succ]
  refine wpAnyH_takeD (i := 3) 35 (v := ?_) rfl rfl (by kernel_rfl) (by kernel_rfl) (by kernel_rfl) (fun _ _ _ h => h) ⟨by rfl, ?_⟩ hHeld ?_
  rotate_left
  · intro w' hSw; obtain ⟨hS1, hS2, hS3, hS4⟩ := hSw; go_simp; try with_reducible rfl
  simp only [List.setIfInBounds_toArray, List.set_cons_zero, List.set_cons_succ]
  refine wpAnyH_takeD (i := 4) 36 (v := ?_) rfl rfl (by kernel_rfl) (by kernel_rfl) (by kernel_rfl) (fun _ _ _ h => h) ⟨by rfl, ?_⟩ hHeld ?_
  rotate_left
  · intro w' hSw; obtain ⟨hS1, hS2, hS3, hS4⟩ := hSw; go_simp; try with_reducible rfl
  simp only [List.setIfInBounds_toArray, List.set_cons_zero, List.set_cons_succ]
  refine wpAnyH_takeD (i := 5) 37 (v := ?_) rfl rfl (by kernel_rfl) (by kernel_rfl) (by kernel_rfl) (fun _ _ _ h => h) ⟨by rfl, ?_⟩ hHeld ?_
  rotate_left
  · intro w' hSw; obtain ⟨hS1, hS2, hS3, hS4⟩ := hSw; go_simp; try with_reducible rfl
  simp only [List.setIfInBounds_toArray, List.set_cons_zero, List.set_cons_succ]
  refine wpAnyH_takeD (i := 6) 38 (v := ?_) rfl rfl (by kernel_rfl) (by kernel_rfl) (by kernel_rfl) (fun _ _ _ h => h) ⟨by rfl, ?_⟩ hHeld ?_
  rotate_left
  · intro w' hSw; obtain ⟨hS1, hS2, hS3, hS4⟩ := hSw; go_simp; try with_reducible rfl
  simp only [List.setIfInBounds_toArray, List.set_cons_zero, List.set_cons_succ]
  refine wpAnyH_takeD (i := 7) 39 (v := ?_) rfl rfl (by kernel_rfl) (by kernel_rfl) (by kernel_rfl) (fun _ _ _ h => h) ⟨by rfl, ?_⟩ hHeld ?_
  rotate_left
  · intro w' hSw; obtain ⟨hS1, hS2, hS3, hS4⟩ := hSw; go_simp; try with_reducible rfl
  simp only [List.setIfInBounds_toArray, List.set_cons_zero, List.set_cons_succ]
  have hsl := HSL.out
  refine wpAnyH_takeD (i := 8) 40 (v := ?_) rfl rfl (by kernel_rfl) (by kernel_rfl) (by kernel_rfl) (fun _ _ _ h => h) ⟨by rfl, ?_⟩ hHeld ?_
  rotate_left
  · intro w' hSw; obtain ⟨hS1, hS2, hS3, hS4⟩ := hSw; go_simp; try with_reducible rfl
  simp only [List.setIfInBounds_toArray, List.set_cons_zero, List.set_cons_succ]
  clear hsl
  refine wpAnyH_oneD 9 rfl (by kernel_rfl) rfl (fun K hK => ?_)
  go_simp
  with_reducible refine (CloneI_any A' c' out _ (hcl.out _ L1.out.drew) hA.out (by omega)).mono ?_
  rintro e w2 ⟨A2, c2, rfl, ho2, hb2⟩
  have y00 : w2.cell? ⟨w.heap.size, 0, none⟩ = some (.int .i64 rate) := (hb2.cell (p := ⟨w.heap.size, 0, none⟩) (by show w.heap.size < w1.heap.size; omega)).trans c00
  have y01 : w2.cell? ⟨w.heap.size, 1, none⟩ = some (.slice A l.length c) := (hb2.cell (p := ⟨w.heap.size, 1, none⟩) (by show w.heap.size < w1.heap.size; omega)).trans c01
  have y10 : w2.cell? ⟨w.heap.size + 1, 0, none⟩ = some (.int .i64 s0) := (hb2.cell (p := ⟨w.heap.size + 1, 0, none⟩) (by show w.heap.size + 1 < w1.heap.size; omega)).trans c10
  have y11 : w2.cell? ⟨w.heap.size + 1, 1, none⟩ = some (.int .i64 s1) := (hb2.cell (p := ⟨w.heap.size + 1, 1, none⟩) (by show w.heap.size + 1 < w1.heap.size; omega)).trans c11
  have y20 : w2.cell? ⟨w.heap.size + 1 + 1, 0, none⟩ = some (.int .i64 0) := (hb2.cell (p := ⟨w.heap.size + 1 + 1, 0, none⟩) (by show w.heap.size + 1 + 1 < w1.heap.size; omega)).trans c20
  have y21 : w2.cell? ⟨w.heap.size + 1 + 1, 1, none⟩ = some (.slice none 0 0) := (hb2.cell (p := ⟨w.heap.size + 1 + 1, 1, none⟩) (by show w.heap.size + 1 + 1 < w1.heap.size; omega)).trans c21
  have g20 : w2.frozen? ⟨w.heap.size + 1 + 1, 0, none⟩ = false := (hb2.frozen (p := ⟨w.heap.size + 1 + 1, 0, none⟩) (by show w.heap.size + 1 + 1 < w1.heap.size; omega)).trans f20
  have g21 : w2.frozen? ⟨w.heap.size + 1 + 1, 1, none⟩ = false := (hb2.frozen (p := ⟨w.heap.size + 1 + 1, 1, none⟩) (by show w.heap.size + 1 + 1 < w1.heap.size; omega)).trans f21
  have hb3 : Below w.heap.size w w2 := HB0.out.trans (Below.mono (show Below w1.heap.size w1 w2 from ⟨hb2.os, hb2.tape, hb2.output, hb2.size, hb2.block⟩) HB0.out.size)
  have ho3 : w2.ownsRow w1.heap.size 3 1 (.slice A2 out.length c2) out.length (ics out) := ho2
  have HB3 := Lib.hid hb3
  have HO3 := Lib.hid ho3
  clear c00 c01 c10 c11 c20 c21 f20 f21 hb2 ho2 hb3 ho3
  refine hK.out _ _ ⟨y00, y01, y10, y11⟩ (fun hHeld => ?_)
  clear hK K
  refine wpAnyH_takeD (i := 10) 42 (v := ?_) rfl rfl (by kernel_rfl) (by kernel_rfl) (by kernel_rfl) (fun _ _ _ h => h) ⟨by rfl, ?_⟩ hHeld ?_
  rotate_left
  · intro w' hSw; obtain ⟨hS1, hS2, hS3, hS4⟩ := hSw; go_simp; try with_reducible rfl
  simp only [List.setIfInBounds_toArray, List.set_cons_zero, List.set_cons_succ]
  refine wpAnyH_oneD 11 rfl (by kernel_rfl) rfl (fun K hK => ?_)
  go_simp
  refine hK.out _ _ ⟨?_, ?_, ?_, ?_⟩ (fun hHeld => ?_)
  · simp [go_sem, y00]
  · simp [go_sem, y01]
  · simp [go_sem, y10]
  · simp [go_sem, y11]
  clear hK K
  refine wpAnyH_done (by kernel_rfl) ?_ _
  refine PopQ.last rfl rfl (fun K hK => ?_)
  go_simp
  refine hK _ _ ?_
  clear hK K
  go_wp2_with fail
  refine bodyPost_ret (v := .tuple #[.agg #[.int .i64 rate, .slice A2 out.length c2], .int .i64 0]) (by simp [results, Try.results42, go_sem, y20, y21]) rfl ?_
  exact ⟨A2, c2, rfl, ownsRow_le (ownsRow_far (ownsRow_far HO3.out (by exact hz2) _) (by exact hz2) _) (by omega), (HB3.out.setCell (by simp; omega) _).setCell (by simp; omega) _⟩
end Go.Proofs.Ytnhkngmdjomfjaa
