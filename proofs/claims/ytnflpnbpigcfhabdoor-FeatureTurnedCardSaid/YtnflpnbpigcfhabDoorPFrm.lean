/- Plain facts: the frames of a list -/
import Derived.Test.YtnflpnbpigcfhabDoorMb
namespace Ear

/-- whether a frame begins at t -/
def frB (n size : Nat) (pad : Bool) (t : Nat) : Bool := decide (t < n) && (pad || decide (t + size ≤ n))
/-- how many frames there are -/
def frN (n size step : Nat) (pad : Bool) : Nat := if pad then (n + step - 1) / step else if size ≤ n then (n - size) / step + 1 else 0
/-- the frame that begins at t -/
def frA (x : List Int) (size t : Nat) : List Int := (List.range size).map fun i => x[t + i]?.getD 0
/-- all frames -/
def frs (x : List Int) (size step : Nat) (pad : Bool) : List (List Int) := (List.range (frN x.length size step pad)).map fun k => frA x size (k * step)
theorem frA_length (x : List Int) (size t : Nat) : (frA x size t).length = size := by simp [frA]
theorem frs_length (x : List Int) (size step : Nat) (pad : Bool) : (frs x size step pad).length = frN x.length size step pad := by simp [frs]
theorem frB_iff {n size step k : Nat} {pad : Bool} (h1 : 1 ≤ size) (h2 : 1 ≤ step) : frB n size pad (k * step) = true ↔ k < frN n size step pad := by
  cases pad with
  | true =>
    unfold frB frN
    simp only [Bool.true_or, Bool.and_true, decide_eq_true_eq, if_true]
    rw [Nat.lt_div_iff_mul_lt (by omega)]
    omega
  | false =>
    unfold frB frN
    simp only [Bool.false_or, Bool.and_eq_true, decide_eq_true_eq, Bool.false_eq_true, if_false]
    by_cases hs : size ≤ n
    · rw [if_pos hs, Nat.lt_succ_iff, Nat.le_div_iff_mul_le (by omega)]
      omega
    · rw [if_neg hs]; omega
theorem frN_le {n size step : Nat} {pad : Bool} (h1 : 1 ≤ size) (h2 : 1 ≤ step) : frN n size step pad ≤ n := by
  rcases Nat.eq_zero_or_pos (frN n size step pad) with h | h
  · omega
  · have := (frB_iff (n := n) (pad := pad) h1 h2 (k := frN n size step pad - 1)).2 (by omega)
    unfold frB at this
    simp only [Bool.and_eq_true, decide_eq_true_eq] at this
    have h3 : (frN n size step pad - 1) * 1 ≤ (frN n size step pad - 1) * step := Nat.mul_le_mul_left _ h2
    omega
theorem frA_take {x : List Int} {size t : Nat} (h : t ≤ x.length) : (x.drop t).take size ++ (List.replicate size 0).drop (min size (x.length - t)) = frA x size t := by
  apply List.ext_getElem
  · simp [frA]; omega
  · intro i h1 h2
    simp only [frA, List.getElem_map, List.getElem_range]
    have hi : i < size := by simpa [frA] using h2
    rw [List.getElem_append]
    split
    · rename_i h3
      simp at h3
      rw [List.getElem_take, List.getElem_drop, List.getElem?_eq_getElem (by omega)]
      rfl
    · rename_i h3
      simp at h3
      rw [List.getElem?_eq_none (by omega)]
      simp
end Ear
