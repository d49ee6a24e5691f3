/- Plain: a weighed frame has no greater energy. -/
import Derived.Test.YtnflpnbpigcfhabDoorMa
namespace Ear
/-- an element of a weighed frame lies between 0 and the element -/
theorem wghAt_bd {l : List Int} {kind : Int} {i : Nat} (hi : i < l.length) : (0 ≤ l[i]?.getD 0 → 0 ≤ wghAt l kind i ∧ wghAt l kind i ≤ l[i]?.getD 0) ∧ (l[i]?.getD 0 ≤ 0 → l[i]?.getD 0 ≤ wghAt l kind i ∧ wghAt l kind i ≤ 0) := by
  have hw := winAt_bd (kind := kind) (n := l.length) (i := i) (by omega) (by omega)
  unfold wghAt
  generalize l[i]?.getD 0 = x at *
  generalize winAt kind l.length i = y at *
  refine ⟨fun h => ?_, fun h => ?_⟩
  · have h1 : 0 ≤ x * y := Int.mul_nonneg h hw.1
    have h2 : x * y ≤ x * 4096 := Int.mul_le_mul_of_nonneg_left hw.2 h
    exact ⟨rnd_nonneg h1 (by omega), rnd_mul_le (by omega) h h2⟩
  · have h1 : x * y ≤ 0 * y := Int.mul_le_mul_of_nonneg_right h hw.1
    have h2 : (-x) * y ≤ (-x) * 4096 := Int.mul_le_mul_of_nonneg_left hw.2 (by omega)
    rw [Int.neg_mul, Int.neg_mul] at h2
    rw [Int.zero_mul] at h1
    exact ⟨le_rnd_mul (by omega) h (by omega), ((rnd_bd (a := x * y) (b := 4096) (by omega)).2 h1).2⟩
theorem wgh_all {l : List Int} {kind : Int} (h : allR (-65536) 65535 l = true) : allR (-65536) 65535 (wgh l kind) = true := by
  apply allR_of
  intro x hx
  obtain ⟨i, hi, rfl⟩ := List.mem_map.1 hx
  have hi' := List.mem_range.1 hi
  have hb := allR_get h hi'
  have hw := wghAt_bd (kind := kind) hi'
  simp only [List.getElem?_eq_getElem hi', Option.getD_some] at hw
  by_cases hs : 0 ≤ l[i]
  · have := hw.1 hs; omega
  · have := hw.2 (by omega); omega
theorem enr_map_le (f g : Nat → Int) : ∀ (n : List Nat), (∀ i ∈ n, f i * f i ≤ g i * g i) → enr (n.map f) ≤ enr (n.map g) := by
  intro n
  induction n with
  | nil => intro _; simp [enr]
  | cons x xs ih =>
    intro h
    have h1 := h x (List.mem_cons_self ..)
    have h2 := ih fun i hi => h i (List.mem_cons_of_mem _ hi)
    simp only [List.map_cons, enr]
    omega
theorem enr_wgh (l : List Int) (kind : Int) : enr (wgh l kind) ≤ enr l := by
  have e : l = (List.range l.length).map (fun i => l[i]?.getD 0) := by
    apply List.ext_getElem (by simp)
    intro k h1 h2
    simp [List.getElem?_eq_getElem h1]
  rw [show enr l = enr ((List.range l.length).map (fun i => l[i]?.getD 0)) by rw [← e]]
  refine enr_map_le _ _ _ fun i hi => ?_
  have hw := wghAt_bd (kind := kind) (List.mem_range.1 hi)
  generalize l[i]?.getD 0 = x at *
  generalize wghAt l kind i = y at *
  by_cases hs : 0 ≤ x
  · have := hw.1 hs; exact (sq_bd (n := x) (by omega) (by omega)).2
  · have := hw.2 (by omega)
    have h2 := (sq_bd (d := y) (n := -x) (by omega) (by omega)).2
    rwa [Int.neg_mul_neg] at h2
end Ear
