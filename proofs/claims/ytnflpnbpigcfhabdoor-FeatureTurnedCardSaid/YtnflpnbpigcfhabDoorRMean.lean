/- the reference's mean -/
import Derived.Test.YtnflpnbpigcfhabDoorCen
namespace Go.Proofs.YtnflpnbpigcfhabDoor
open Go.RowKit Ear

/-- n numbers: the first k are done, the k-th has come to x -/
def meaTo (f : Nat → Int) (x : Int) (n k : Nat) : List Int := (List.range n).map fun q => if q < k then f q else if q = k then x else 0
theorem meaTo_start (f : Nat → Int) (n : Nat) : meaTo f 0 n 0 = List.replicate n 0 := by
  apply List.ext_getElem (by simp [meaTo])
  intro q h1 h2
  simp [meaTo]
theorem meaTo_get (f : Nat → Int) (x : Int) (n k : Nat) (hk : k < n) : (meaTo f x n k)[k]? = some x := by
  rw [List.getElem?_eq_getElem (by simpa [meaTo] using hk)]
  simp [meaTo]
theorem meaTo_set (f : Nat → Int) (x y : Int) (n k : Nat) : (meaTo f x n k).set k y = meaTo f y n k := by
  apply List.ext_getElem (by simp [meaTo])
  intro q h1 h2
  rw [List.getElem_set]
  simp only [meaTo, List.getElem_map, List.getElem_range]
  by_cases h : k = q
  · subst h; simp
  · rw [if_neg h]
    by_cases h' : q < k
    · rw [if_pos h', if_pos h']
    · rw [if_neg h', if_neg h', if_neg (fun e => h e.symm), if_neg (fun e => h e.symm)]
theorem meaTo_next (f : Nat → Int) (n k : Nat) : meaTo f (f k) n k = meaTo f 0 n (k + 1) := by
  apply List.ext_getElem (by simp [meaTo])
  intro q h1 h2
  simp only [meaTo, List.getElem_map, List.getElem_range]
  by_cases h : q < k
  · rw [if_pos h, if_pos (by omega)]
  · by_cases h' : q = k
    · subst h'; rw [if_neg h, if_pos rfl, if_pos (by omega)]
    · rw [if_neg h, if_neg h', if_neg (by omega)]
      split <;> rfl
theorem meaTo_all (f : Nat → Int) (n : Nat) : meaTo f 0 n n = (List.range n).map f := by
  apply List.ext_getElem (by simp [meaTo])
  intro q h1 h2
  simp only [meaTo, List.length_map, List.length_range] at h1
  simp only [meaTo, List.getElem_map, List.getElem_range]
  rw [if_pos h1]
theorem meanL_range (vs : List (List Int)) : (List.range (len0 vs)).map (fun q => rnd (colS vs q vs.length) vs.length) = meanL vs := by
  simp [meanL, sumV]

end Go.Proofs.YtnflpnbpigcfhabDoor
