/- Plain: windows. -/
import Derived.Test.YtnflpnbpigcfhaaPRes
namespace Ear
/-- the weight of the element with the distance d (in halves) from the middle -/
def wt (kind n d : Int) : Int :=
  if kind = 1 then 4096 else if kind = 2 then rnd (4096 * (n + 1 - max d (-d))) (n + 1) else rnd (4096 * ((n + 1) * (n + 1) - d * d)) ((n + 1) * (n + 1))
def winAt (kind n : Int) (i : Nat) : Int := wt kind n (2 * (i : Int) - (n - 1))
def winTo (kind n : Int) (j : Nat) : List Int := (List.range j).map (winAt kind n)
theorem winTo_succ (kind n : Int) (j : Nat) : winTo kind n (j + 1) = winTo kind n j ++ [winAt kind n j] := by
  unfold winTo; rw [List.range_succ, List.map_append]; rfl
theorem winTo_length (kind n : Int) (j : Nat) : (winTo kind n j).length = j := by simp [winTo]
theorem sq_bd {d n : Int} (h1 : -n ≤ d) (h2 : d ≤ n) : 0 ≤ d * d ∧ d * d ≤ n * n := by
  constructor
  · by_cases h : 0 ≤ d
    · exact Int.mul_nonneg h h
    · have : 0 ≤ (-d) * (-d) := Int.mul_nonneg (by omega) (by omega)
      rwa [Int.neg_mul_neg] at this
  · have hn : 0 ≤ n := by omega
    by_cases h : 0 ≤ d
    · exact Int.mul_le_mul h2 h2 h hn
    · have : (-d) * (-d) ≤ n * n := Int.mul_le_mul (by omega) (by omega) (by omega) hn
      rwa [Int.neg_mul_neg] at this
theorem wt_bd {kind n d : Int} (hn : 1 ≤ n) (h1 : -n ≤ d) (h2 : d ≤ n) : 0 ≤ wt kind n d ∧ wt kind n d ≤ 4096 := by
  unfold wt
  split
  · omega
  · split
    · have hm : 0 ≤ max d (-d) ∧ max d (-d) ≤ n := by omega
      exact ⟨rnd_nonneg (by omega) (by omega), rnd_mul_le (by omega) (by omega) (by omega)⟩
    · have hs := sq_bd h1 h2
      have h3 : (n + 1) * (n + 1) = n * n + 2 * n + 1 := by rw [Int.add_mul, Int.mul_add]; omega
      generalize hq : (n + 1) * (n + 1) = q at *
      have h4 : 0 ≤ n * n := Int.mul_nonneg (by omega) (by omega)
      exact ⟨rnd_nonneg (by omega) (by omega), rnd_mul_le (by omega) (by omega) (by omega)⟩
theorem winAt_bd {kind n : Int} {i : Nat} (hn : 1 ≤ n) (hi : (i : Int) < n) : 0 ≤ winAt kind n i ∧ winAt kind n i ≤ 4096 := wt_bd hn (by omega) (by omega)
/-- an element of a weighed frame -/
def wghAt (l : List Int) (kind : Int) (i : Nat) : Int := rnd (l[i]?.getD 0 * winAt kind l.length i) 4096
def wgh (l : List Int) (kind : Int) : List Int := (List.range l.length).map (wghAt l kind)
def wghTo (l : List Int) (kind : Int) (i : Nat) : List Int := (List.range l.length).map fun k => if k < i then wghAt l kind k else winAt kind l.length k
theorem wghTo_zero (l : List Int) (kind : Int) : wghTo l kind 0 = winTo kind l.length l.length := by
  unfold wghTo winTo; apply List.map_congr_left; intro k _; simp
theorem wghTo_all (l : List Int) (kind : Int) (i : Nat) (h : l.length ≤ i) : wghTo l kind i = wgh l kind := by
  unfold wghTo wgh; apply List.map_congr_left; intro k hk; rw [if_pos (by have := List.mem_range.1 hk; omega)]
theorem wghTo_length (l : List Int) (kind : Int) (i : Nat) : (wghTo l kind i).length = l.length := by simp [wghTo]
theorem wgh_length (l : List Int) (kind : Int) : (wgh l kind).length = l.length := by simp [wgh]
theorem wghTo_get (l : List Int) (kind : Int) (i : Nat) (h : i < l.length) : (wghTo l kind i)[i]? = some (winAt kind l.length i) := by simp [wghTo, h]
theorem wghTo_succ (l : List Int) (kind : Int) (i : Nat) : wghTo l kind (i + 1) = (wghTo l kind i).set i (wghAt l kind i) := by
  apply List.ext_getElem (by simp [wghTo])
  intro k h1 h2
  rw [List.getElem_set]
  simp only [wghTo, List.getElem_map, List.getElem_range]
  by_cases hk : i = k
  · subst hk; simp
  · rw [if_neg hk]
    by_cases hki : k < i
    · rw [if_pos (by omega), if_pos hki]
    · rw [if_neg (by omega), if_neg hki]
theorem mul_bd3 {x y X Y : Int} (hy0 : 0 ≤ y) (hy : y ≤ Y) (hx : -X ≤ x) (hx' : x ≤ X) (hX : 0 ≤ X) : -(X * Y) ≤ x * y ∧ x * y ≤ X * Y := by
  have h1 : x * y ≤ X * y := Int.mul_le_mul_of_nonneg_right hx' hy0
  have h2 : X * y ≤ X * Y := Int.mul_le_mul_of_nonneg_left hy hX
  have h3 : (-X) * y ≤ x * y := Int.mul_le_mul_of_nonneg_right hx hy0
  rw [Int.neg_mul] at h3
  omega
end Ear
