/- Plain facts: frames one after the other -/
import Derived.Test.YtnflpnbpigcfhaaPFrm
import Derived.Test.YtnflpnbpigcfhaaPWave
namespace Ear

theorem frA_flat (x : List Int) (size N : Nat) : (List.range N).flatMap (fun k => frA x size (k * size)) = (List.range (N * size)).map (fun i => x[i]?.getD 0) := by
  induction N with
  | zero => simp
  | succ N ih =>
    rw [List.range_succ, List.flatMap_append, ih, Nat.add_mul, Nat.one_mul, List.range_add, List.map_append]
    simp [frA, List.map_map]
theorem flat_take (x : List Int) (M : Nat) (h : x.length ≤ M) : ((List.range M).map (fun i => x[i]?.getD 0)).take x.length = x := by
  apply List.ext_getElem
  · simp; omega
  · intro i h1 h2
    simp [List.getElem?_eq_getElem h2]
theorem flat_drop (x : List Int) (M : Nat) : ((List.range M).map (fun i => x[i]?.getD 0)).drop x.length = List.replicate (M - x.length) 0 := by
  apply List.ext_getElem
  · simp
  · intro i h1 h2
    simp only [List.getElem_drop, List.getElem_map, List.getElem_range, List.getElem_replicate]
    rw [List.getElem?_eq_none (by omega)]
    rfl
theorem allR_zero (n : Nat) : allR 0 0 (List.replicate n 0) = true := by
  unfold allR
  rw [List.all_eq_true]
  intro x hx
  rw [List.eq_of_mem_replicate hx]
  rfl
theorem frN_pad (n size : Nat) (h : 1 ≤ size) : n ≤ frN n size size true * size ∧ frN n size size true * size < n + size := by
  unfold frN
  rw [if_pos rfl]
  have h1 := Nat.div_add_mod (n + size - 1) size
  have h2 := Nat.mod_lt (n + size - 1) (show size > 0 by omega)
  rw [Nat.mul_comm] at h1
  omega
theorem frN_cut (n size : Nat) (h : 1 ≤ size) : frN n size size false = n / size := by
  unfold frN
  rw [if_neg (by simp)]
  by_cases hs : size ≤ n
  · rw [if_pos hs]
    have := Nat.sub_mul_div n size 1
    rw [Nat.mul_one] at this
    have h2 : 1 ≤ n / size := (Nat.le_div_iff_mul_le (by omega)).2 (by omega)
    omega
  · rw [if_neg hs, Nat.div_eq_of_lt (by omega)]
theorem frN_le_pad (n size : Nat) (h : 1 ≤ size) : n / size ≤ frN n size size true := by
  unfold frN
  rw [if_pos rfl]
  exact Nat.div_le_div_right (by omega)
theorem frs_cut (x : List Int) (size : Nat) (h : 1 ≤ size) : frs x size size false = (frs x size size true).take (x.length / size) := by
  unfold frs
  rw [frN_cut _ _ h, ← List.map_take, List.take_range, Nat.min_eq_left (frN_le_pad _ _ h)]
end Ear
