/- FeatureLinear: plain facts, two makes, three stores -/
import Derived.Test.YtfapmghhmkekaaaDoorLRet
import Derived.Test.YtfapmghhmkekaaaDoorMb
namespace Go.Proofs.YtfapmghhmkekaaaDoor
open Go.RowKit Ear

theorem rng_get (f : Nat → Int) (n i : Nat) (h0 : n ≤ i → f i = 0) : ((List.range n).map f)[i]?.getD 0 = f i := by
  by_cases hi : i < n
  · rw [List.getElem?_eq_getElem (by simpa using hi)]; simp
  · rw [List.getElem?_eq_none (by simp; omega)]; simp; exact (h0 (by omega)).symm
theorem get_out {l : List Int} {i : Nat} (h : l.length ≤ i) : l[i]?.getD 0 = 0 := by rw [List.getElem?_eq_none h]; rfl
/-- the sum, the multiple, the list in the opposite order -/
def linS (x y : List Int) : List Int := (List.range x.length).map fun i => x[i]?.getD 0 + y[i]?.getD 0
def linM (m : Int) (x : List Int) : List Int := (List.range x.length).map fun i => m * x[i]?.getD 0
def linT (x : List Int) : List Int := (List.range x.length).map fun i => x[x.length - 1 - i]?.getD 0
theorem linT_rev (x : List Int) : linT x = x.reverse := by
  apply List.ext_getElem (by simp [linT])
  intro q h1 h2
  simp only [linT, List.length_map, List.length_range] at h1
  simp only [linT, List.getElem_map, List.getElem_range, List.getElem_reverse]
  rw [List.getElem?_eq_getElem (by omega)]; rfl
theorem lin_add {x y : List Int} (hl : x.length = y.length) {k : Nat} (hk : k < x.length) : (trf (linS x y))[k]?.getD 0 = (trf x)[k]?.getD 0 + (trf y)[k]?.getD 0 := by
  have hn : (linS x y).length = x.length := by simp [linS]
  rw [trf_get (by rw [hn]; exact hk), trf_get hk, trf_get (by omega), hn, ← hl]
  exact trS_add (fun i => rng_get (fun i => x[i]?.getD 0 + y[i]?.getD 0) x.length i (fun h => by rw [get_out h, get_out (by omega)]; rfl)) _ _ _
theorem lin_mul {x : List Int} (m : Int) {k : Nat} (hk : k < x.length) : (trf (linM m x))[k]?.getD 0 = m * (trf x)[k]?.getD 0 := by
  have hn : (linM m x).length = x.length := by simp [linM]
  rw [trf_get (by rw [hn]; exact hk), trf_get hk, hn]
  exact trS_mul (fun i => rng_get (fun i => m * x[i]?.getD 0) x.length i (fun h => by rw [get_out h]; simp)) _ _ _
theorem lin_turn {x : List Int} (h : lenOk x.length = true) {k : Nat} (hk : k < x.length) : (trf (linT x))[k]?.getD 0 = if k % 2 = 0 then (trf x)[k]?.getD 0 else -(trf x)[k]?.getD 0 := by
  have hn : (linT x).length = x.length := by simp [linT]
  rw [trf_get (by rw [hn]; exact hk), trf_get hk, hn, linT_rev]
  exact trS_rev h k
theorem lin_wide {l : List Int} (h : allR (-30000) 30000 l = true) (i : Nat) : -30000 ≤ l[i]?.getD 0 ∧ l[i]?.getD 0 ≤ 30000 := getD_bd h (by omega) (by omega) i
theorem linS_ok {x y : List Int} (hx : allR (-30000) 30000 x = true) (hy : allR (-30000) 30000 y = true) : allR (-65536) 65536 (linS x y) = true := by
  apply allR_of
  intro z hz
  obtain ⟨i, _, rfl⟩ := List.mem_map.1 hz
  have := lin_wide hx i
  have := lin_wide hy i
  omega
theorem linM_ok {x : List Int} {m : Int} (hx : allR (-30000) 30000 x = true) (h1 : -2 ≤ m) (h2 : m ≤ 2) : allR (-65536) 65536 (linM m x) = true := by
  apply allR_of
  intro z hz
  obtain ⟨i, _, rfl⟩ := List.mem_map.1 hz
  have := lin_wide hx i
  have h3 : m = -2 ∨ m = -1 ∨ m = 0 ∨ m = 1 ∨ m = 2 := by omega
  rcases h3 with rfl | rfl | rfl | rfl | rfl <;> omega
theorem linT_ok {x : List Int} (hx : allR (-30000) 30000 x = true) : allR (-65536) 65536 (linT x) = true := by
  apply allR_of
  intro z hz
  obtain ⟨i, _, rfl⟩ := List.mem_map.1 hz
  have := lin_wide hx (x.length - 1 - i)
  omega
theorem mul_two {m x : Int} (h1 : -2 ≤ m) (h2 : m ≤ 2) {b : Int} (hx : -b ≤ x ∧ x ≤ b) : -(2 * b) ≤ m * x ∧ m * x ≤ 2 * b := by
  have h3 : m = -2 ∨ m = -1 ∨ m = 0 ∨ m = 1 ∨ m = 2 := by omega
  rcases h3 with rfl | rfl | rfl | rfl | rfl <;> omega
/-- make([]int, n), at every world -/
theorem make_all (n : Nat) (hn : n ≤ 1000000000) : ∃ mk : World → World, ∀ W : World, (Instr.makeSlice 22 (.int .i64 (n : Int)) (.int .i64 (n : Int))).run Tryd.prog W = .ok (.slice (some ⟨W.heap.size, 0, none⟩) n n) (mk W) ∧
    (mk W).ownsRow W.heap.size 3 1 (.slice (some ⟨W.heap.size, 0, none⟩) n n) n (ics (List.replicate n 0)) ∧ Below W.heap.size W (mk W) :=
  ⟨fun W => Classical.choose (make_ints W n hn W.heap.size (Nat.le_refl _)), fun W => Classical.choose_spec (make_ints W n hn W.heap.size (Nat.le_refl _))⟩
theorem own_apart_set {w : World} {base g n c h k : Nat} {xs : List Value} (ho : w.ownsRow base 3 1 (.slice (some ⟨g, 0, none⟩) n c) n xs) (hne : g ≠ h) (v : Value) : (w.setCell ⟨h, k, none⟩ v).ownsRow base 3 1 (.slice (some ⟨g, 0, none⟩) n c) n xs :=
  ownsRow_setCell_other ho (by simp [Value.ownBlock]; omega) v
/-- a row of integers: its k-th cell, ready for a store -/
theorem own_cell {w : World} {base g n c k : Nat} {f : Nat → Int} (ho : w.ownsRow base 3 1 (.slice (some ⟨g, 0, none⟩) n c) n (ics (fillTo f n k))) (hk : k < n) : w.cell? ⟨g, k, none⟩ = some (.int .i64 0) ∧ w.frozen? ⟨g, k, none⟩ = false :=
  ⟨by rw [ho.cellAt k (by omega)]; simp only [List.getElem?_map, fillTo_get _ n k hk]; rfl, ho.frozenAt k⟩
theorem own_put {w : World} {base g n c k : Nat} {f : Nat → Int} (ho : w.ownsRow base 3 1 (.slice (some ⟨g, 0, none⟩) n c) n (ics (fillTo f n k))) : (w.setCell ⟨g, k, none⟩ (.int .i64 (f k))).ownsRow base 3 1 (.slice (some ⟨g, 0, none⟩) n c) n (ics (fillTo f n (k + 1))) := by
  have h := (ho.stored k (.int .i64 (f k))).1
  rw [← List.map_set, fillTo_set f n k (f k) rfl] at h
  exact h
end Go.Proofs.YtfapmghhmkekaaaDoor
