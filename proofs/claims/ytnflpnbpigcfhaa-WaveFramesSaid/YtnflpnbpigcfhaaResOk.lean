/- wave.Resample where nothing is refused -/
import Derived.Test.YtnflpnbpigcfhaaResW
import Derived.Test.YtnflpnbpigcfhaaPop
namespace Go.Proofs.Ytnflpnbpigcfhaa
open Go.RowKit Ear

/-- the first j new samples -/
def rsmTo (l : List Int) (u d j : Nat) : List Int := (List.range j).map (rsmAt l u d)
theorem rsmTo_succ (l : List Int) (u d j : Nat) : rsmTo l u d (j + 1) = rsmTo l u d j ++ [rsmAt l u d j] := by
  unfold rsmTo; rw [List.range_succ, List.map_append]; rfl
theorem rsmTo_length (l : List Int) (u d j : Nat) : (rsmTo l u d j).length = j := by simp [rsmTo]

theorem mul_bd {x y : Int} (hx : -32768 ≤ x ∧ x ≤ 32767) (hy0 : 0 ≤ y) (hy : y ≤ 16) : -(32768 * 16) ≤ x * y ∧ x * y ≤ 32768 * 16 := by
  obtain ⟨y, rfl⟩ := Int.eq_ofNat_of_zero_le hy0
  have : y ≤ 16 := by omega
  have hc : y = 0 ∨ y = 1 ∨ y = 2 ∨ y = 3 ∨ y = 4 ∨ y = 5 ∨ y = 6 ∨ y = 7 ∨ y = 8 ∨ y = 9 ∨ y = 10 ∨ y = 11 ∨ y = 12 ∨ y = 13 ∨ y = 14 ∨ y = 15 ∨ y = 16 := by omega
  rcases hc with rfl | rfl | rfl | rfl | rfl | rfl | rfl | rfl | rfl | rfl | rfl | rfl | rfl | rfl | rfl | rfl | rfl <;> omega

attribute [local go_sem ↓] Go.wp_at_zero Go.wp_at_succ

set_option maxRecDepth 100000 in
set_option maxHeartbeats 2000000 in
theorem Resample_ok (rate : Int) (A : Option Addr) (c : Nat) (l : List Int) (u d M W : Nat) (w : World) (h : Lies w A (ics l)) (hn : l.length ≤ 200000) (hr : Hid (chk rate l = 0))
    (h1 : 1 ≤ u) (h2 : u ≤ 16) (h3 : 1 ≤ d) (h4 : d ≤ 16) (h5 : (rate * u % d != 0) = false) (h6 : 1 ≤ rate * u / d) (h7 : rate * u / d ≤ 192000)
    (hru1 : 0 ≤ rate * u) (hru2 : rate * u ≤ 3072000) (hlu : (l.length : Int) * u ≤ 3200000) (hlu0 : 0 ≤ (l.length : Int) * u) (hm : M ≤ 200000)
    (hM : ((l.length : Int) * u + d - 1) / d = M) (hW : ((d : Int) + u - 1) / u = W) (hW1 : 1 ≤ W) (hW2 : W ≤ 16) (HM : Hid (M = (l.length * u + d - 1) / d)) (HW : Hid (W = (d + u - 1) / u)) (hl0 : M ≠ 0 → 0 < l.length) :
    Calls Try.prog 13 #[recV rate A l.length c, .int .i64 u, .int .i64 d] w (RecRet (rate * u / d) 0 (rsm l u d) w) := by
  have HL := Lib.hid (fun o o' => (h.alloc (w := w) o).alloc o')
  have HL0 := Lib.hid hl0
  clear hl0
  obtain ⟨i0, hi0, hz0, hz1, hz2⟩ := info_parts int_info
  have HI := Lib.hid hi0; have HZ0 := Lib.hid hz0; have HZ1 := Lib.hid hz1; have HZ2 := Lib.hid hz2
  clear hi0 hz0 hz1 hz2
  have e1 : decide ((u : Int) < 1) = false := by simp; omega
  have e2 : decide ((16 : Int) < u) = false := by simp; omega
  have e3 : decide ((d : Int) < 1) = false := by simp; omega
  have e4 : decide ((16 : Int) < d) = false := by simp; omega
  have e5 : decide (rate * u / d < 1) = false := by simp; omega
  have e6 : decide (192000 < rate * u / d) = false := by simp; omega
  have e7 : decide ((200000 : Int) < M) = false := by simp; omega
  go_enter Try.func13, Try.ntmps13
  go_wp2_with fail
  refine (check_any rate A c l _ (HL.out _ _) (by omega) _ hr).mono ?_
  rintro e w1 ⟨rfl, hb⟩
  obtain ⟨hc, hf⟩ := bcell hb
  have hz := hb.size
  simp at hz
  have hz0 : w.heap.size < w1.heap.size := by omega
  have hz1 : w.heap.size + 1 < w1.heap.size := by omega
  have hbw : Below w.heap.size w w1 := (((Below.refl _ _).alloc (Nat.le_refl _) _).alloc (by simp) _).trans (hb.mono (by simp; omega))
  have c0 : w1.cell? ⟨w.heap.size, 0, none⟩ = some (.int .i64 rate) := by rw [hc _ _ (by simp; omega)]; simp [go_sem]
  have c1 : w1.cell? ⟨w.heap.size, 1, none⟩ = some (.slice A l.length c) := by rw [hc _ _ (by simp; omega)]; simp [go_sem]
  have c2 : ∃ v, w1.cell? ⟨w.heap.size + 1, 0, none⟩ = some v := by rw [hc _ _ (by simp)]; simp [go_sem]
  have c3 : ∃ v, w1.cell? ⟨w.heap.size + 1, 1, none⟩ = some v := by rw [hc _ _ (by simp)]; simp [go_sem]
  have f0 : w1.frozen? ⟨w.heap.size + 1, 0, none⟩ = false := by rw [hf _ _ (by simp)]; simp [go_sem]
  have f1 : w1.frozen? ⟨w.heap.size + 1, 1, none⟩ = false := by rw [hf _ _ (by simp)]; simp [go_sem]
  clear hc hf hb hz
  go_wp2_with fail
  clear e1 e2 e3 e4 e5 e6 e7
  try rw [hM]
  try rw [hW]
  clear hM hW
  obtain ⟨W0, hW0⟩ : ∃ W0 : World, W0 = (((w1.alloc (Obj.cells #[Value.int IntKind.i64 ↑l.length] 3)).alloc (Obj.cells #[Value.int IntKind.i64 (rate * u / d), Value.slice none 0 0] 36)).alloc (Obj.cells #[Value.int IntKind.i64 W] 3)) := ⟨_, rfl⟩
  rw [← hW0]
  have hs0 : W0.heap.size = w1.heap.size + 3 := by rw [hW0]; simp
  have hB1 : Below w1.heap.size w1 W0 := by rw [hW0]; exact (((Below.refl _ _).alloc (Nat.le_refl _) _).alloc (by simp) _).alloc (by simp; omega) _
  have k0 : W0.cell? ⟨w.heap.size, 1, none⟩ = some (.slice A l.length c) := (hB1.cell (p := ⟨w.heap.size, 1, none⟩) hz0).trans c1
  have k1 : W0.cell? ⟨w1.heap.size, 0, none⟩ = some (.int .i64 l.length) := by rw [hW0]; simp [go_sem]
  have k2 : W0.cell? ⟨w1.heap.size + 1 + 1, 0, none⟩ = some (.int .i64 W) := by rw [hW0]; simp [go_sem]
  have k3 : W0.cell? ⟨w1.heap.size + 1, 0, none⟩ = some (.int .i64 (rate * u / d)) := by rw [hW0]; simp [go_sem]
  have k4 : W0.cell? ⟨w1.heap.size + 1, 1, none⟩ = some (.slice none 0 0) := by rw [hW0]; simp [go_sem]
  have k5 : W0.frozen? ⟨w1.heap.size + 1, 1, none⟩ = false := by rw [hW0]; simp [go_sem]
  have k6 : Below w.heap.size w W0 := by rw [hW0]; exact ((hbw.alloc (by omega) _).alloc (by simp; omega) _).alloc (by simp; omega) _
  have k7 : ∃ v, W0.cell? ⟨w.heap.size + 1, 0, none⟩ = some v := by rw [hB1.cell (p := ⟨w.heap.size + 1, 0, none⟩) hz1]; exact c2
  have k8 : ∃ v, W0.cell? ⟨w.heap.size + 1, 1, none⟩ = some v := by rw [hB1.cell (p := ⟨w.heap.size + 1, 1, none⟩) hz1]; exact c3
  have k9 : W0.frozen? ⟨w.heap.size + 1, 0, none⟩ = false := (hB1.frozen (p := ⟨w.heap.size + 1, 0, none⟩) hz1).trans f0
  have k10 : W0.frozen? ⟨w.heap.size + 1, 1, none⟩ = false := (hB1.frozen (p := ⟨w.heap.size + 1, 1, none⟩) hz1).trans f1
  obtain ⟨v7, k7⟩ := k7
  obtain ⟨v8, k8⟩ := k8
  clear c0 c1 c2 c3 f0 f1 hbw hW0 hB1
  have HS0 := Lib.hid hs0
  have hs1 : w1.heap.size + 1 + 1 < W0.heap.size := by omega
  clear hs0
  generalize hG : w1.heap.size + 1 = G at *
  generalize hN : w1.heap.size = N at *
  have HG := Lib.hid hG
  clear hG hN
  go_loopw [14, 15, 16, 94] (fun _ _ _ i wr => ∃ j : Nat, j ≤ M ∧ i = .int .i64 j ∧ ∃ A' c', wr.cell? ⟨G, 1, none⟩ = some (.slice A' j c') ∧ wr.cell? ⟨G, 0, none⟩ = some (.int .i64 (rate * u / d)) ∧ wr.frozen? ⟨G, 1, none⟩ = false ∧
      wr.ownsRow W0.heap.size 3 1 (.slice A' j c') j (ics (rsmTo l u d j)) ∧ W0.grownBy wr (some G)) (fun _ _ _ i _ => M - (intOf i).toNat)
  case atStart => exact ⟨0, Nat.zero_le _, rfl, none, 0, k4, k3, k5, World.ownsRow_nil _ _ _ _, World.grownBy.refl _ _⟩
  case round =>
    obtain ⟨j, hj, rfl, A', c', r1, r2, r3, r4, r5⟩ := hrel
    by_cases hlt : j < M
    · have hl0 : 0 < l.length := HL0.out (by omega)
      have hsmp : Hid (smp l = true) := (chk_ok.1 hr.out).2.2.2
      have hgn := HG.out
      have hsn := HS0.out
      have hcl := only_cell r5
      have q0 : wr.cell? ⟨w.heap.size, 1, none⟩ = some (.slice A l.length c) := (hcl _ _ (by omega) (by omega)).trans k0
      have q1 : wr.cell? ⟨N, 0, none⟩ = some (.int .i64 l.length) := (hcl _ _ (by omega) (by omega)).trans k1
      have q2 : wr.cell? ⟨G + 1, 0, none⟩ = some (.int .i64 W) := (hcl _ _ (by omega) (by omega)).trans k2
      have hsz := r5.size
      have hz9 : G < wr.heap.size := by omega
      clear hcl hgn hsn
      obtain ⟨q, hq⟩ : ∃ q : Nat, q = j * d / u := ⟨_, rfl⟩
      obtain ⟨f, hf⟩ : ∃ f : Nat, f = j * d % u := ⟨_, rfl⟩
      have hfu : f < u := by rw [hf]; exact Nat.mod_lt _ (by omega)
      have hjd : j * d ≤ 3200000 := Nat.le_trans (Nat.mul_le_mul (by omega) h4) (by omega : 200000 * 16 ≤ 3200000)
      have hqd : q ≤ 3200000 := by rw [hq]; exact Nat.le_trans (Nat.div_le_self _ _) hjd
      have hji : (j : Int) * d = ((j * d : Nat) : Int) := by simp
      have p1 : IntKind.i64.wrap ((j : Int) * d) = (j : Int) * d := IntWalk.i64_in _ (by omega)
      have p2 : ((j : Int) * d).tdiv u = q := by rw [hq, hji, Int.natCast_ediv]; exact Int.tdiv_eq_ediv_of_nonneg (by omega)
      have p3 : ((j : Int) * d).tmod u = f := by rw [hf, hji, Int.natCast_emod]; exact Int.tmod_eq_emod_of_nonneg (by omega)
      have HQ := Lib.hid hq
      have HF := Lib.hid hf
      clear hq hf hji
      go_wp2_with fail
      go_quiet (fail)
      clear p1 p2 p3
      generalize hwq : wr.drewN nq = wq at *
      have r1' : wq.cell? ⟨G, 1, none⟩ = some (.slice A' j c') := by rw [← hwq]; exact r1
      have r2' : wq.cell? ⟨G, 0, none⟩ = some (.int .i64 (rate * u / d)) := by rw [← hwq]; exact r2
      have r3' : wq.frozen? ⟨G, 1, none⟩ = false := by rw [← hwq]; exact r3
      have r4' : wq.ownsRow W0.heap.size 3 1 (.slice A' j c') j (ics (rsmTo l u d j)) := by rw [← hwq]; exact r4
      have r5' : W0.grownBy wq (some G) := by rw [← hwq]; exact only_drewN r5 _
      have q0' : wq.cell? ⟨w.heap.size, 1, none⟩ = some (.slice A l.length c) := by rw [← hwq]; exact q0
      have q1' : wq.cell? ⟨N, 0, none⟩ = some (.int .i64 l.length) := by rw [← hwq]; exact q1
      have q2' : wq.cell? ⟨G + 1, 0, none⟩ = some (.int .i64 W) := by rw [← hwq]; exact q2
      have hz9' : G < wq.heap.size := by rw [← hwq]; exact hz9
      have HLW : Hid (Lies wq A (ics l)) := h.only k6 r5' (by have := HG.out; omega)
      clear r1 r2 r3 r4 r5 q0 q1 q2 hz9 hsz hwq
      have b1 := smo_bd hsmp.out hl0 q W hW1
      have b2 := smo_bd hsmp.out hl0 (q + 1) W hW1
      generalize hx1 : smo l q W = x1 at *
      generalize hx2 : smo l (q + 1) W = x2 at *
      have m1 : -(32768 * 16) ≤ x1 * ((u : Int) - f) ∧ x1 * ((u : Int) - f) ≤ 32768 * 16 := mul_bd b1 (by omega) (by omega)
      have m2 : -(32768 * 16) ≤ x2 * (f : Int) ∧ x2 * (f : Int) ≤ 32768 * 16 := mul_bd b2 (by omega) (by omega)
      have p1 : IntKind.i64.wrap ((u : Int) - f) = (u : Int) - f := IntWalk.i64_in _ (by omega)
      have p2 : IntKind.i64.wrap (x1 * ((u : Int) - f)) = x1 * ((u : Int) - f) := IntWalk.i64_in _ (by omega)
      have p3 : IntKind.i64.wrap (x2 * (f : Int)) = x2 * (f : Int) := IntWalk.i64_in _ (by omega)
      have p4 : IntKind.i64.wrap (x1 * ((u : Int) - f) + x2 * (f : Int)) = x1 * ((u : Int) - f) + x2 * (f : Int) := IntWalk.i64_in _ (by omega)
      have p5 : IntKind.i64.wrap ((q : Int) + 1) = (q : Int) + 1 := IntWalk.i64_in _ (by omega)
      have H1 := Lib.hid hx1
      have H2 := Lib.hid hx2
      clear hx1 hx2
      have hS1 : ∀ W' : World, W' = wq.drew → Calls Try.prog 22 #[.int .i64 q, .pointer (some ⟨G + 1, 0, none⟩), .pointer (some ⟨w.heap.size, 0, none⟩), .pointer (some ⟨N, 0, none⟩)] W' fun e w' => e = .returned (.int .i64 x1) ∧ W' = w' := by
        rintro W' rfl
        have := smooth1_any A c l q W (G + 1) w.heap.size N wq.drew HLW.out hsmp hl0 hn (by omega) (by omega) hW1 (by omega) q2' q0' q1'
        rw [Int.toNat_natCast, H1.out] at this
        exact this
      have hS2 : ∀ W' : World, W' = wq.drew → Calls Try.prog 22 #[.int .i64 ((q : Int) + 1), .pointer (some ⟨G + 1, 0, none⟩), .pointer (some ⟨w.heap.size, 0, none⟩), .pointer (some ⟨N, 0, none⟩)] W' fun e w' => e = .returned (.int .i64 x2) ∧ W' = w' := by
        rintro W' rfl
        have := smooth1_any A c l ((q : Int) + 1) W (G + 1) w.heap.size N wq.drew HLW.out hsmp hl0 hn (by omega) (by omega) hW1 (by omega) q2' q0' q1'
        rw [show ((q : Int) + 1).toNat = q + 1 by omega, H2.out] at this
        exact this
      have HS1 := Lib.hid hS1
      have HS2 := Lib.hid hS2
      clear hS1 hS2
      have ag : (Value.slice A' j c').ownBlock ≠ some G := fun e => by have := (r4'.lt _ e).1; have := HS0.out; have := HG.out; omega
      go_wp2_with fail
      refine wp_region_pop (S := fun w' => w'.cell? ⟨G, 1, none⟩ = some (.slice A' j c')) 21 (by kernel_rfl) (by kernel_rfl) r1' (fun hHeld => ?_)
      simp only [List.pop_toArray, List.dropLast_cons_cons, List.dropLast_singleton]
      refine wpAnyH_takeD (i := 0) 107 (v := ?_) rfl rfl (by kernel_rfl) (by kernel_rfl) (by kernel_rfl) (fun _ _ _ h => h) ⟨by rfl, ?_⟩ hHeld ?_
      rotate_left
      · intro w' hSw; go_simp; try with_reducible rfl
      simp only [List.setIfInBounds_toArray, List.set_cons_zero, List.set_cons_succ]
      refine wpAnyH_takeD (i := 1) 108 (v := ?_) rfl rfl (by kernel_rfl) (by kernel_rfl) (by kernel_rfl) (fun _ _ _ h => h) ⟨by rfl, ?_⟩ hHeld ?_
      rotate_left
      · intro w' hSw; go_simp; try with_reducible rfl
      simp only [List.setIfInBounds_toArray, List.set_cons_zero, List.set_cons_succ]
      refine wpAnyH_takeD (i := 2) 109 (v := ?_) rfl rfl (by kernel_rfl) (by kernel_rfl) (by kernel_rfl) (fun _ _ _ h => h) ⟨by rfl, ?_⟩ hHeld ?_
      rotate_left
      · intro w' hSw; go_simp; try with_reducible rfl
      simp only [List.setIfInBounds_toArray, List.set_cons_zero, List.set_cons_succ]
      refine wpAnyH_takeD (i := 3) 110 (v := ?_) rfl rfl (by kernel_rfl) (by kernel_rfl) (by kernel_rfl) (fun _ _ _ h => h) ⟨by rfl, ?_⟩ hHeld ?_
      rotate_left
      · intro w' hSw; go_simp; try with_reducible rfl
      simp only [List.setIfInBounds_toArray, List.set_cons_zero, List.set_cons_succ]
      refine wpAnyH_takeD (i := 5) 112 (v := ?_) rfl rfl (by kernel_rfl) (by kernel_rfl) (by kernel_rfl) (fun _ _ _ h => h) ⟨by rfl, ?_⟩ hHeld ?_
      rotate_left
      · intro w' hSw; go_simp; try with_reducible rfl
      simp only [List.setIfInBounds_toArray, List.set_cons_zero, List.set_cons_succ]
      refine wpAnyH_takeD (i := 6) 113 (v := ?_) rfl rfl (by kernel_rfl) (by kernel_rfl) (by kernel_rfl) (fun _ _ _ h => h) ⟨by rfl, ?_⟩ hHeld ?_
      rotate_left
      · intro w' hSw; go_simp; try with_reducible rfl
      simp only [List.setIfInBounds_toArray, List.set_cons_zero, List.set_cons_succ]
      refine wpAnyH_takeD (i := 7) 114 (v := ?_) rfl rfl (by kernel_rfl) (by kernel_rfl) (by kernel_rfl) (fun _ _ _ h => h) ⟨by rfl, ?_⟩ hHeld ?_
      rotate_left
      · intro w' hSw; go_simp; try with_reducible rfl
      simp only [List.setIfInBounds_toArray, List.set_cons_zero, List.set_cons_succ]
      refine wpAnyH_takeD (i := 9) 116 (v := ?_) rfl rfl (by kernel_rfl) (by kernel_rfl) (by kernel_rfl) (fun _ _ _ h => h) ⟨by rfl, ?_⟩ hHeld ?_
      rotate_left
      · intro w' hSw; go_simp; try with_reducible rfl
      simp only [List.setIfInBounds_toArray, List.set_cons_zero, List.set_cons_succ]
      refine wpAnyH_takeD (i := 10) 117 (v := ?_) rfl rfl (by kernel_rfl) (by kernel_rfl) (by kernel_rfl) (fun _ _ _ h => h) ⟨by rfl, ?_⟩ hHeld ?_
      rotate_left
      · intro w' hSw; go_simp; try with_reducible rfl
      simp only [List.setIfInBounds_toArray, List.set_cons_zero, List.set_cons_succ]
      refine wpAnyH_takeD (i := 11) 118 (v := ?_) rfl rfl (by kernel_rfl) (by kernel_rfl) (by kernel_rfl) (fun _ _ _ h => h) ⟨by rfl, ?_⟩ hHeld ?_
      rotate_left
      · intro w' hSw; go_simp; try with_reducible rfl
      simp only [List.setIfInBounds_toArray, List.set_cons_zero, List.set_cons_succ]
      refine wpAnyH_takeD (i := 13) 120 (v := ?_) rfl rfl (by kernel_rfl) (by kernel_rfl) (by kernel_rfl) (fun _ _ _ h => h) ⟨by rfl, ?_⟩ hHeld ?_
      rotate_left
      · intro w' hSw; go_simp; try with_reducible rfl
      simp only [List.setIfInBounds_toArray, List.set_cons_zero, List.set_cons_succ]
      refine wpAnyH_takeD (i := 16) 123 (v := ?_) rfl rfl (by kernel_rfl) (by kernel_rfl) (by kernel_rfl) (fun _ _ _ h => h) ⟨by rfl, ?_⟩ hHeld ?_
      rotate_left
      · intro w' hSw; go_simp; try with_reducible rfl
      simp only [List.setIfInBounds_toArray, List.set_cons_zero, List.set_cons_succ]
      refine wpAnyH_oneD 4 rfl (by kernel_rfl) rfl (fun K hK => ?_)
      go_simp
      with_reducible refine (HS1.out _ rfl).mono ?_
      rintro e w' ⟨rfl, rfl⟩
      refine hK.out _ _ hHeld (fun hHeld => ?_)
      clear hK K
      refine wpAnyH_takeD (i := 8) 115 (v := ?_) rfl rfl (by kernel_rfl) (by kernel_rfl) (by kernel_rfl) (fun _ _ _ h => h) ⟨by rfl, ?_⟩ hHeld ?_
      rotate_left
      · intro w' hSw; go_simp; try with_reducible rfl
      simp only [List.setIfInBounds_toArray, List.set_cons_zero, List.set_cons_succ]
      refine wpAnyH_oneD 12 rfl (by kernel_rfl) rfl (fun K hK => ?_)
      go_simp
      with_reducible refine (HS2.out _ rfl).mono ?_
      rintro e w' ⟨rfl, rfl⟩
      refine hK.out _ _ hHeld (fun hHeld => ?_)
      clear hK K
      refine wpAnyH_takeD (i := 14) 121 (v := ?_) rfl rfl (by kernel_rfl) (by kernel_rfl) (by kernel_rfl) (fun _ _ _ h => h) ⟨by rfl, ?_⟩ hHeld ?_
      rotate_left
      · intro w' hSw; go_simp; try with_reducible rfl
      simp only [List.setIfInBounds_toArray, List.set_cons_zero, List.set_cons_succ]
      refine wpAnyH_takeD (i := 15) 122 (v := ?_) rfl rfl (by kernel_rfl) (by kernel_rfl) (by kernel_rfl) (fun _ _ _ h => h) ⟨by rfl, ?_⟩ hHeld ?_
      rotate_left
      · intro w' hSw; go_simp; try with_reducible rfl
      simp only [List.setIfInBounds_toArray, List.set_cons_zero, List.set_cons_succ]
      refine wpAnyH_oneD 17 rfl (by kernel_rfl) rfl (fun K hK => ?_)
      go_simp
      with_reducible refine (rounded_any _ _ _ (by omega) (by omega) (by omega) (by omega)).mono ?_
      rintro e w' ⟨rfl, rfl⟩
      refine hK.out _ _ hHeld (fun hHeld => ?_)
      clear hK K
      generalize hxr : rnd (x1 * ((u : Int) - f) + x2 * (f : Int)) u = xr
      have HXR := Lib.hid hxr
      clear hxr p1 p2 p3 p4 p5 m1 m2
      refine wpAnyH_oneD 18 rfl (by kernel_rfl) rfl (fun K hK => ?_)
      go_simp
      refine hK.out _ _ ?_ (fun hHeld => ?_)
      · exact (World.cell?_of_block (w := wq) (Below.heap_alloc wq _ G hz9')).trans r1'
      clear hK K
      refine wpAnyH_oneD 19 rfl (by kernel_rfl) rfl (fun K hK => ?_)
      refine wp_append_liesD _ 126 rfl (.tmp 108) (.tmp 125) 22 rfl W0.heap.size 3 i0 _ 1 8 Try.underlying22 HI.out HZ0.out HZ1.out HZ2.out rfl (by omega) (.slice A' j c') j (ics (rsmTo l u d j)) rfl ((r4'.alloc _).drew)
        ⟨wq.heap.size, 0, none⟩ 1 1 [.int .i64 xr] rfl rfl (World.news_of_block (cs := #[.int .i64 xr]) (t := 3) (fr := (0, 0)) (heap_alloc_new wq _)) (by simp [Value.oneCell']) (by omega) (by unfold maxLen; omega) (by omega) (by simp; exact Nat.le_succ_of_le r5'.size) (wq.heap.size + 1) (by simp) ?_
      intro gg cap w1' hown1 hgrow hat hlt'
      have hfz : w1'.frozen? ⟨G, 1, none⟩ = false := (hgrow.frozen_far ⟨G, 1, none⟩ (by simp; omega) (Ne.symm ag)).trans ((World.frozen?_of_block (w := wq) (Below.heap_alloc wq _ G hz9')).trans r3')
      have hcz : w1'.cell? ⟨G, 1, none⟩ = some (.slice A' j c') := (hgrow.cell_far ⟨G, 1, none⟩ (by simp; omega) (Ne.symm ag)).trans ((World.cell?_of_block (w := wq) (Below.heap_alloc wq _ G hz9')).trans r1')
      refine hK.out _ _ hcz (fun hHeld => ?_)
      clear hK K
      simp only [List.setIfInBounds_toArray, List.set_cons_zero, List.set_cons_succ]
      refine wpAnyH_takeD (i := 20) 127 (v := ?_) rfl rfl (by kernel_rfl) (by kernel_rfl) (by kernel_rfl) (fun _ _ _ h => h) ⟨by rfl, ?_⟩ hHeld ?_
      rotate_left
      · intro w' hSw; go_simp; try with_reducible rfl
      simp only [List.setIfInBounds_toArray, List.set_cons_zero, List.set_cons_succ]
      refine wpAnyH_done (by kernel_rfl) ?_ _
      refine PopQ.last rfl rfl (fun K hK => ?_)
      go_simp
      refine hK _ _ ?_
      clear hK K
      go_wp2_with fail
      have hxr : xr = rsmAt l u d j := by
        rw [← HXR.out, ← H1.out, ← H2.out, HQ.out, HF.out, HW.out]; rfl
      have hown2 : w1'.ownsRow W0.heap.size 3 1 (.slice (some ⟨gg, 0, none⟩) (j + 1) cap) (j + 1) (ics (rsmTo l u d (j + 1))) := by
        rw [rsmTo_succ, ← hxr]; simpa [ics] using hown1
      have hGs : G < W0.heap.size := by omega
      have hc0 : w1'.cell? ⟨G, 0, none⟩ = some (.int .i64 (rate * u / d)) := (hgrow.cell_far ⟨G, 0, none⟩ (by simp; omega) (Ne.symm ag)).trans ((World.cell?_of_block (w := wq) (Below.heap_alloc wq _ G hz9')).trans r2')
      have hgr : W0.grownBy w1' (some G) := only_grown (only_alloc (only_drew r5') _) hgrow (fun k hk => (r4'.lt k hk).1)
      go_roundw
      case rel =>
        exact ⟨j + 1, by omega, by go_num, some ⟨gg, 0, none⟩, cap, by simp [go_sem, hcz], by simp [go_sem, hc0], by simp [go_sem, hfz], ownsRow_far hown2 hGs _, only_set hgr (.inl rfl) _⟩
      case measure => simp [intOf]; omega
    · have hjM : j = M := by omega
      subst hjM
      have hgn := HG.out
      have hsn := HS0.out
      have hcl := only_cell r5
      have q7 : wr.cell? ⟨w.heap.size + 1, 0, none⟩ = some v7 := (hcl _ _ (by omega) (by omega)).trans k7
      have q8 : wr.cell? ⟨w.heap.size + 1, 1, none⟩ = some v8 := (hcl _ _ (by omega) (by omega)).trans k8
      have q9 : wr.frozen? ⟨w.heap.size + 1, 0, none⟩ = false := (World.frozen?_of_block (a := ⟨w.heap.size + 1, 0, none⟩) (r5.block _ (by show w.heap.size + 1 < _; omega) (fun e => by have e' := Option.some.inj e; simp only at e'; omega))).trans k9
      have q10 : wr.frozen? ⟨w.heap.size + 1, 1, none⟩ = false := (World.frozen?_of_block (a := ⟨w.heap.size + 1, 1, none⟩) (r5.block _ (by show w.heap.size + 1 < _; omega) (fun e => by have e' := Option.some.inj e; simp only at e'; omega))).trans k10
      have hBz : Below w.heap.size w wr := k6.trans (Below.of_only r5 (by omega) (by omega))
      have hW9 : w.heap.size + 1 < W0.heap.size := by omega
      have hWle : w.heap.size ≤ W0.heap.size := by omega
      clear hcl hgn hsn
      go_wp2_with fail
      refine bodyPost_ret (v := .tuple #[.agg #[.int .i64 (rate * u / d), .slice A' j c'], .int .i64 0]) (by simp [results, Try.results13, go_sem, q7, q8]) rfl ?_
      have hout : rsm l u d = rsmTo l u d j := by unfold rsm rsmTo; rw [← HM.out]
      rw [hout]
      refine ⟨A', c', by rw [rsmTo_length], ?_, (hBz.setCell (by simp) _).setCell (by simp) _⟩
      rw [rsmTo_length]
      exact ownsRow_le (ownsRow_far (ownsRow_far r4 (by exact hW9) _) (by exact hW9) _) hWle
end Go.Proofs.Ytnflpnbpigcfhaa
