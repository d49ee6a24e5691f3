/- Plain: what restores an emphasis. -/
import Derived.Test.YtnflpnbpigcfhabDoorMa
namespace Ear
def rstAt (l : List Int) (num den : Int) : Nat → Int
  | 0 => l[0]?.getD 0
  | k + 1 => l[k + 1]?.getD 0 + rnd (num * rstAt l num den k) den
def rst (l : List Int) (num den : Int) : List Int := (List.range l.length).map (rstAt l num den)
def rstTo (l : List Int) (num den : Int) (i : Nat) : List Int := (List.range l.length).map fun k => if k < i then rstAt l num den k else l[k]?.getD 0
theorem rst_length (l : List Int) (num den : Int) : (rst l num den).length = l.length := by simp [rst]
theorem rstTo_length (l : List Int) (num den : Int) (i : Nat) : (rstTo l num den i).length = l.length := by simp [rstTo]
theorem rstTo_one (l : List Int) (num den : Int) : rstTo l num den 1 = l := by
  apply List.ext_getElem (rstTo_length ..)
  intro k h1 h2
  simp only [rstTo, List.getElem_map, List.getElem_range]
  split
  · have : k = 0 := by omega
    subst this; simp [rstAt, List.getElem?_eq_getElem h2]
  · simp [List.getElem?_eq_getElem h2]
theorem rstTo_all (l : List Int) (num den : Int) (i : Nat) (h : l.length ≤ i) : rstTo l num den i = rst l num den := by
  unfold rstTo rst
  apply List.map_congr_left
  intro k hk
  rw [if_pos (by have := List.mem_range.1 hk; omega)]
theorem rstTo_get (l : List Int) (num den : Int) (i : Nat) (h : i < l.length) : (rstTo l num den i)[i]? = some (l[i]?.getD 0) := by simp [rstTo, h]
theorem rstTo_get' (l : List Int) (num den : Int) (i j : Nat) (h : j < l.length) (hj : j < i) : (rstTo l num den i)[j]? = some (rstAt l num den j) := by simp [rstTo, h, hj]
theorem rstTo_succ (l : List Int) (num den : Int) (i : Nat) : rstTo l num den (i + 1) = (rstTo l num den i).set i (rstAt l num den i) := by
  apply List.ext_getElem (by simp [rstTo])
  intro k h1 h2
  rw [List.getElem_set]
  simp only [rstTo, List.getElem_map, List.getElem_range]
  by_cases hk : i = k
  · subst hk; simp
  · rw [if_neg hk]
    by_cases hki : k < i
    · rw [if_pos (by omega), if_pos hki]
    · rw [if_neg (by omega), if_neg hki]
theorem rst_vls {l : List Int} {num den : Int} : vls (rst l num den) = true ↔ ∀ k, k < l.length → inR (-2147483647) 2147483647 (rstAt l num den k) = true := by
  unfold vls allR
  rw [List.all_eq_true]
  constructor
  · intro h k hk
    exact h _ (List.mem_map.2 ⟨k, List.mem_range.2 hk, rfl⟩)
  · intro h x hx
    obtain ⟨k, hk, rfl⟩ := List.mem_map.1 hx
    exact h k (List.mem_range.1 hk)
end Ear
