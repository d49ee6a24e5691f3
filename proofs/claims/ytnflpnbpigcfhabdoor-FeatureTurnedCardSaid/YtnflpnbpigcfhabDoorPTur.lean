/- Plain law: features of a recording whose samples change their sign, and of a longer one -/
import Derived.Test.YtnflpnbpigcfhabDoorMe
namespace Go.Proofs.YtnflpnbpigcfhabDoor
open Go.RowKit Ear

/-- the other sign -/
def ngl (l : List Int) : List Int := l.map (fun x => -x)
theorem ngl_length (l : List Int) : (ngl l).length = l.length := by simp [ngl]
theorem ngl_get (l : List Int) (i : Nat) : (ngl l)[i]?.getD 0 = -(l[i]?.getD 0) := by
  unfold ngl
  rw [List.getElem?_map]
  cases l[i]? <;> simp
theorem rnd_odd {a b : Int} (hb : 1 ≤ b) : rnd (-a) b = -rnd a b := by
  rcases Int.lt_trichotomy a 0 with h | h | h
  · rw [rnd_of_neg h, Int.neg_neg]
  · subst h
    rw [Int.neg_zero, rnd_pos (by omega), Int.ediv_eq_zero_of_lt (by omega) (by omega)]
    rfl
  · rw [rnd_of_neg (by omega), Int.neg_neg]
theorem range_ngl (n : Nat) (f : Nat → Int) : (List.range n).map (fun i => -f i) = ngl ((List.range n).map f) := by
  unfold ngl
  rw [List.map_map]
  rfl
theorem emp_ngl (l : List Int) (num : Int) {den : Int} (hd : 1 ≤ den) : emp (ngl l) num den = ngl (emp l num den) := by
  unfold emp
  rw [ngl_length, ← range_ngl]
  apply List.map_congr_left
  intro k _
  unfold empAt
  split
  · exact ngl_get l 0
  · rw [ngl_get, ngl_get, Int.mul_neg, rnd_odd hd]
    omega
theorem frA_ngl (x : List Int) (size t : Nat) : frA (ngl x) size t = ngl (frA x size t) := by
  unfold frA
  rw [← range_ngl]
  apply List.map_congr_left
  intro k _
  exact ngl_get x _
theorem wgh_ngl (l : List Int) (kind : Int) : wgh (ngl l) kind = ngl (wgh l kind) := by
  unfold wgh
  rw [ngl_length, ← range_ngl]
  apply List.map_congr_left
  intro k _
  unfold wghAt
  rw [ngl_get, ngl_length, Int.neg_mul, rnd_odd (by omega)]
theorem ext_ngl (l : List Int) (n : Nat) : ext (ngl l) n = ngl (ext l n) := by
  unfold ext
  rw [ngl_length]
  unfold ngl
  rw [List.map_append, List.map_replicate]
  rfl
theorem trf_ngl (l : List Int) : trf (ngl l) = ngl (trf l) := by
  unfold trf
  rw [ngl_length, ← range_ngl]
  apply List.map_congr_left
  intro k _
  rw [trS_mul (x := l) (t := ngl l) (by_ := -1) (fun i => by rw [ngl_get]; omega)]
  omega
theorem spc_ngl (l : List Int) : spc (ngl l) = ngl (spc l) := by
  unfold spc
  rw [trf_ngl]
  unfold ngl
  rw [List.map_map, List.map_map]
  apply List.map_congr_left
  intro x _
  exact rnd_odd (by omega)
theorem enr_ngl (l : List Int) : enr (ngl l) = enr l := by
  induction l with
  | nil => rfl
  | cons x xs ih =>
    show -x * -x + enr (ngl xs) = x * x + enr xs
    rw [ih, Int.neg_mul_neg]
theorem betw_ngl (s : List Int) (a b : Int) : betw (ngl s) a b = ngl (betw s a b) := by
  unfold betw ngl
  simp [List.map_take, List.map_drop]
theorem bndL_ngl (s e : List Int) : bndL (ngl s) e = bndL s e := by
  unfold bndL
  apply List.map_congr_left
  intro b _
  unfold bndAt
  rw [betw_ngl, enr_ngl]
theorem vecF_ngl (win : Int) (pts : Nat) (edges : List Int) (ce : Nat) (fr : List Int) : vecF win pts edges ce (ngl fr) = vecF win pts edges ce fr := by
  unfold vecF
  rw [wgh_ngl, ext_ngl, spc_ngl, bndL_ngl]
theorem rawV_ngl (l : List Int) (num : Int) {den : Int} (hd : 1 ≤ den) (size step : Nat) (win : Int) (pts : Nat) (edges : List Int) (ce : Nat) : rawV (ngl l) num den size step win pts edges ce = rawV l num den size step win pts edges ce := by
  unfold rawV frs
  rw [emp_ngl l num hd, ngl_length, List.map_map, List.map_map]
  apply List.map_congr_left
  intro k _
  simp only [Function.comp]
  rw [frA_ngl, vecF_ngl]
theorem emp_app (l m : List Int) (num den : Int) {k : Nat} (hk : k < l.length) : (emp (l ++ m) num den)[k]?.getD 0 = (emp l num den)[k]?.getD 0 := by
  unfold emp
  rw [List.getElem?_map, List.getElem?_map, List.getElem?_range hk, List.getElem?_range (by rw [List.length_append]; omega)]
  simp only [Option.map_some, Option.getD_some]
  unfold empAt
  split
  · rw [List.getElem?_append_left (by omega)]
  · rw [List.getElem?_append_left (by omega), List.getElem?_append_left (by omega)]
theorem frN_grow {n m size step : Nat} (h : n ≤ m) : frN n size step false ≤ frN m size step false := by
  have e : ∀ q, frN q size step false = if size ≤ q then (q - size) / step + 1 else 0 := fun q => by unfold frN; simp
  rw [e, e]
  by_cases hn : size ≤ n
  · rw [if_pos hn, if_pos (by omega)]
    have := Nat.div_le_div_right (c := step) (show n - size ≤ m - size by omega)
    omega
  · rw [if_neg hn]; exact Nat.zero_le _
theorem frN_in {n size step k : Nat} (h1 : 1 ≤ size) (h2 : 1 ≤ step) (hk : k < frN n size step false) : k * step + size ≤ n := by
  have := (frB_iff h1 h2).2 hk
  unfold frB at this
  simp only [Bool.false_or, Bool.and_eq_true, decide_eq_true_eq] at this
  exact this.2
theorem rawV_app (l m : List Int) (num den : Int) {size step : Nat} (h1 : 1 ≤ size) (h2 : 1 ≤ step) (win : Int) (pts : Nat) (edges : List Int) (ce : Nat) :
    (rawV (l ++ m) num den size step win pts edges ce).take (frN l.length size step false) = rawV l num den size step win pts edges ce := by
  unfold rawV frs
  rw [emp_length, emp_length, ← List.map_take, ← List.map_take, List.take_range, Nat.min_eq_left (frN_grow (by rw [List.length_append]; omega)), List.map_map, List.map_map]
  apply List.map_congr_left
  intro k hk
  simp only [Function.comp]
  congr 1
  unfold frA
  apply List.map_congr_left
  intro i hi
  have := frN_in h1 h2 (List.mem_range.1 hk)
  have := List.mem_range.1 hi
  exact emp_app l m num den (by omega)
end Go.Proofs.YtnflpnbpigcfhabDoor
