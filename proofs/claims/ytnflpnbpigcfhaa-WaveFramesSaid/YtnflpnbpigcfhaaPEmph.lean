/- Plain: emphasis and what restores it. -/
import Derived.Test.YtnflpnbpigcfhaaPWave
namespace Ear
/-- an element of an emphasis -/
def empAt (l : List Int) (num den : Int) (k : Nat) : Int := if k = 0 then l[0]?.getD 0 else l[k]?.getD 0 - rnd (num * l[k - 1]?.getD 0) den
/-- the first i elements are those of the emphasis, the others as they were -/
def empTo (l : List Int) (num den : Int) (i : Nat) : List Int := (List.range l.length).map fun k => if k < i then empAt l num den k else l[k]?.getD 0
def emp (l : List Int) (num den : Int) : List Int := (List.range l.length).map (empAt l num den)
theorem empTo_length (l : List Int) (num den : Int) (i : Nat) : (empTo l num den i).length = l.length := by simp [empTo]
theorem empTo_one (l : List Int) (num den : Int) : empTo l num den 1 = l := by
  apply List.ext_getElem (empTo_length ..)
  intro k h1 h2
  simp only [empTo, List.getElem_map, List.getElem_range]
  split
  · have : k = 0 := by omega
    subst this; simp [empAt, List.getElem?_eq_getElem h2]
  · simp [List.getElem?_eq_getElem h2]
theorem empTo_all (l : List Int) (num den : Int) (i : Nat) (h : l.length ≤ i) : empTo l num den i = emp l num den := by
  unfold empTo emp
  apply List.map_congr_left
  intro k hk
  rw [if_pos (by have := List.mem_range.1 hk; omega)]
theorem empTo_get (l : List Int) (num den : Int) (i : Nat) (h : i < l.length) : (empTo l num den i)[i]? = some (l[i]?.getD 0) := by
  simp [empTo, h]
theorem empTo_succ (l : List Int) (num den : Int) (i : Nat) : empTo l num den (i + 1) = (empTo l num den i).set i (empAt l num den i) := by
  apply List.ext_getElem (by simp [empTo])
  intro k h1 h2
  rw [List.getElem_set]
  simp only [empTo, List.getElem_map, List.getElem_range]
  by_cases hk : i = k
  · subst hk; simp
  · rw [if_neg hk]
    by_cases hki : k < i
    · rw [if_pos (by omega), if_pos hki]
    · rw [if_neg (by omega), if_neg hki]
theorem mul_bd2 {a x A X : Int} (ha : 0 ≤ a) (haA : a ≤ A) (hx : -X ≤ x) (hx' : x ≤ X) (hX : 0 ≤ X) : -(A * X) ≤ a * x ∧ a * x ≤ A * X := by
  have h1 : a * x ≤ a * X := Int.mul_le_mul_of_nonneg_left hx' ha
  have h2 : a * X ≤ A * X := Int.mul_le_mul_of_nonneg_right haA hX
  have h3 : a * (-X) ≤ a * x := Int.mul_le_mul_of_nonneg_left hx ha
  rw [Int.mul_neg] at h3
  omega
end Ear
