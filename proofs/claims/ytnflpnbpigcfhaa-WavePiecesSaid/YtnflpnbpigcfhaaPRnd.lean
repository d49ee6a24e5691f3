/- Plain facts: division with rounding, halves away from 0. -/
import Init.Data.Int.DivMod.Lemmas
namespace Ear

/-- division with rounding, halves away from 0 -/
def rnd (a b : Int) : Int := if a < 0 then -((2 * (-a) + b) / (2 * b)) else (2 * a + b) / (2 * b)
theorem rnd_pos {a b : Int} (h : 0 ≤ a) : rnd a b = (2 * a + b) / (2 * b) := by unfold rnd; rw [if_neg (by omega)]
theorem rnd_neg {a b : Int} (h : a < 0) : rnd a b = -((2 * (-a) + b) / (2 * b)) := by unfold rnd; rw [if_pos h]
theorem rnd_of_neg {a b : Int} (h : a < 0) : rnd a b = -rnd (-a) b := by rw [rnd_neg h, rnd_pos (by omega)]
/-- q is the rounded quotient of a nonnegative a -/
theorem rnd_le {a b q : Int} (ha : 0 ≤ a) (hb : 1 ≤ b) (h : 2 * a + b < 2 * b * (q + 1)) : rnd a b ≤ q := by
  rw [rnd_pos ha]
  have := Int.ediv_lt_of_lt_mul (show 0 < 2 * b by omega) (show 2 * a + b < (q + 1) * (2 * b) by rw [Int.mul_comm (q + 1)]; exact h)
  omega
theorem le_rnd {a b q : Int} (ha : 0 ≤ a) (hb : 1 ≤ b) (h : 2 * b * q ≤ 2 * a + b) : q ≤ rnd a b := by
  rw [rnd_pos ha]
  exact Int.le_ediv_of_mul_le (by omega) (by rw [Int.mul_comm]; exact h)
theorem rnd_nonneg {a b : Int} (ha : 0 ≤ a) (hb : 1 ≤ b) : 0 ≤ rnd a b := le_rnd ha hb (by simp; omega)
theorem rnd_le_self {a b : Int} (ha : 0 ≤ a) (hb : 1 ≤ b) : rnd a b ≤ a := by
  refine rnd_le ha hb ?_
  have h1 : a ≤ b * a := by
    have := Int.mul_le_mul_of_nonneg_right hb ha
    omega
  have h2 : 2 * b * (a + 1) = 2 * (b * a) + 2 * b := by rw [Int.mul_add, Int.mul_assoc]; omega
  omega
theorem rnd_zero {b : Int} (hb : 1 ≤ b) : rnd 0 b = 0 := by
  have h1 := rnd_nonneg (a := 0) (b := b) (by omega) hb
  have h2 := rnd_le_self (a := 0) (b := b) (by omega) hb
  omega
theorem rnd_bd {a b : Int} (hb : 1 ≤ b) : (0 ≤ a → 0 ≤ rnd a b ∧ rnd a b ≤ a) ∧ (a ≤ 0 → a ≤ rnd a b ∧ rnd a b ≤ 0) := by
  refine ⟨fun h => ⟨rnd_nonneg h hb, rnd_le_self h hb⟩, fun h => ?_⟩
  by_cases h0 : a = 0
  · subst h0; rw [rnd_zero hb]; omega
  · have h1 : a < 0 := by omega
    rw [rnd_of_neg h1]
    have := rnd_nonneg (a := -a) (b := b) (by omega) hb
    have := rnd_le_self (a := -a) (b := b) (by omega) hb
    omega
end Ear
