/- Mx: the texts PLen, PCos, PTrf, PLoop, PVec, PLog, PLg in one. -/
import Derived.Test.YtnflpnbpigcfhaaBits
import Derived.Test.YtnflpnbpigcfhaaBase
import Derived.Test.YtnflpnbpigcfhaaPWave
import Derived.Lib.BitFns
/- Plain facts: the lengths that a transform can have -/
namespace Ear

/-- a transform can have this length -/
def lenOk (n : Nat) : Bool := n == 1 || n == 2 || n == 4 || n == 8 || n == 16 || n == 32 || n == 64
theorem lenOk_bd {n : Nat} (h : lenOk n = true) : 1 ≤ n ∧ n ≤ 64 := by
  simp [lenOk] at h; omega
theorem lenOk_no {n : Nat} (h : n < 1 ∨ 64 < n) : lenOk n = false := by
  simp [lenOk]; omega
theorem lenOk_and : ∀ n : Nat, n < 65 → 1 ≤ n → (Go.bits .and .i64 (n : Int) ((n : Int) - 1) == 0) = lenOk n := by decide +kernel
end Ear
/- Plain facts: the table of cosines and its extension. -/
namespace Ear

/-- the table's 65 numbers -/
def cosTab : List Int := [16384, 16379, 16364, 16340, 16305, 16261, 16207, 16143, 16069, 15986, 15893, 15791, 15679, 15557, 15426, 15286, 15137, 14978, 14811, 14635, 14449, 14256, 14053, 13842, 13623, 13395, 13160, 12916, 12665, 12406, 12140, 11866, 11585, 11297, 11003, 10702, 10394, 10080, 9760, 9434, 9102, 8765, 8423, 8076, 7723, 7366, 7005, 6639, 6270, 5897, 5520, 5139, 4756, 4370, 3981, 3590, 3196, 2801, 2404, 2006, 1606, 1205, 804, 402, 0]
def cosAt (k : Nat) : Int := cosTab.getD k 0
theorem cosTab_length : cosTab.length = 65 := rfl
theorem cosAt_all : ∀ k, k < 65 → 0 ≤ cosAt k ∧ cosAt k ≤ 16384 := by decide
theorem cosAt_bd (k : Nat) : 0 ≤ cosAt k ∧ cosAt k ≤ 16384 := by
  by_cases h : k < 65
  · exact cosAt_all k h
  · have : cosAt k = 0 := by unfold cosAt; rw [List.getD_eq_getElem?_getD, List.getElem?_eq_none (by rw [cosTab_length]; omega)]; rfl
    omega
/-- C of a rest -/
def cosM (m : Nat) : Int := if m ≤ 64 then cosAt m else if m ≤ 128 then -cosAt (128 - m) else if m ≤ 192 then -cosAt (m - 128) else cosAt (256 - m)
/-- the extended table -/
def cosC (j : Nat) : Int := cosM (j % 256)
theorem cosM_bd (m : Nat) : -16384 ≤ cosM m ∧ cosM m ≤ 16384 := by
  unfold cosM
  have h1 := cosAt_bd m; have h2 := cosAt_bd (128 - m); have h3 := cosAt_bd (m - 128); have h4 := cosAt_bd (256 - m)
  split
  · omega
  · split
    · omega
    · split <;> omega
theorem cosC_bd (j : Nat) : -16384 ≤ cosC j ∧ cosC j ≤ 16384 := cosM_bd _
end Ear
/- Plain facts: transforms -/
namespace Ear

/-- the first m terms of the k-th number of the transform -/
def trS (l : List Int) (n k : Nat) : Nat → Int
  | 0 => 0
  | i + 1 => trS l n k i + l[i]?.getD 0 * cosC ((2 * i + 1) * k * 64 / n)
/-- the transform -/
def trf (l : List Int) : List Int := (List.range l.length).map fun k => trS l l.length k l.length
/-- the transform, of which k numbers are done, and the k-th one up to i terms -/
def trTo (l : List Int) (k i : Nat) : List Int := (List.range l.length).map fun q => if q < k then trS l l.length q l.length else if q = k then trS l l.length k i else 0
theorem trf_length (l : List Int) : (trf l).length = l.length := by simp [trf]
theorem trTo_length (l : List Int) (k i : Nat) : (trTo l k i).length = l.length := by simp [trTo]
theorem trTo_zero (l : List Int) : trTo l 0 0 = List.replicate l.length 0 := by
  apply List.ext_getElem (by simp [trTo])
  intro q h1 h2
  simp only [trTo, List.getElem_map, List.getElem_range, List.getElem_replicate]
  rw [if_neg (by omega)]
  split <;> rfl
theorem trTo_all (l : List Int) : trTo l l.length 0 = trf l := by
  apply List.ext_getElem (by simp [trTo, trf])
  intro q h1 h2
  simp only [trTo, List.length_map, List.length_range] at h1
  simp only [trTo, trf, List.getElem_map, List.getElem_range]
  rw [if_pos h1]
theorem trTo_next (l : List Int) (k : Nat) : trTo l k l.length = trTo l (k + 1) 0 := by
  apply List.ext_getElem (by simp [trTo])
  intro q h1 h2
  simp only [trTo, List.getElem_map, List.getElem_range]
  by_cases h : q < k
  · rw [if_pos h, if_pos (by omega)]
  · by_cases h' : q = k
    · subst h'; rw [if_neg h, if_pos rfl, if_pos (by omega)]
    · rw [if_neg h, if_neg h', if_neg (by omega)]
      split <;> rfl
theorem trTo_get (l : List Int) (k i : Nat) (hk : k < l.length) : (trTo l k i)[k]? = some (trS l l.length k i) := by
  rw [List.getElem?_eq_getElem (by simpa [trTo] using hk)]
  simp [trTo]
theorem trTo_set (l : List Int) (k i : Nat) (v : Int) (h : v = trS l l.length k (i + 1)) : (trTo l k i).set k v = trTo l k (i + 1) := by
  subst h
  apply List.ext_getElem (by simp [trTo])
  intro q h1 h2
  rw [List.getElem_set]
  simp only [trTo, List.getElem_map, List.getElem_range]
  by_cases h : k = q
  · subst h; simp
  · rw [if_neg h]
    by_cases h' : q < k
    · rw [if_pos h', if_pos h']
    · rw [if_neg h', if_neg h', if_neg (by omega), if_neg (by omega)]
/-- a product of two bounded numbers -/
theorem mul_abs {x y A B : Int} (h1 : -A ≤ x) (h2 : x ≤ A) (h3 : -B ≤ y) (h4 : y ≤ B) : -(A * B) ≤ x * y ∧ x * y ≤ A * B := by
  have a1 := Int.mul_nonneg (show 0 ≤ A - x by omega) (show 0 ≤ B - y by omega)
  have a2 := Int.mul_nonneg (show 0 ≤ A + x by omega) (show 0 ≤ B + y by omega)
  have a3 := Int.mul_nonneg (show 0 ≤ A - x by omega) (show 0 ≤ B + y by omega)
  have a4 := Int.mul_nonneg (show 0 ≤ A + x by omega) (show 0 ≤ B - y by omega)
  simp only [Int.sub_mul, Int.add_mul, Int.mul_sub, Int.mul_add] at a1 a2 a3 a4
  omega
theorem all_at {l : List Int} {d : Int} (hd : 0 ≤ d) (h : allR (-d) d l = true) (i : Nat) : -d ≤ l[i]?.getD 0 ∧ l[i]?.getD 0 ≤ d := by
  by_cases hi : i < l.length
  · have := allR_get h hi
    simp only [List.getElem?_eq_getElem hi, Option.getD_some]
    omega
  · rw [List.getElem?_eq_none (by omega)]
    simp; omega
theorem trS_bd {l : List Int} {d : Int} (hd : 0 ≤ d) (h : allR (-d) d l = true) (n k : Nat) : ∀ i : Nat, -((i : Int) * (d * 16384)) ≤ trS l n k i ∧ trS l n k i ≤ (i : Int) * (d * 16384) := by
  intro i
  induction i with
  | zero => simp [trS]
  | succ i ih =>
    have hx := all_at hd h i
    have hc := cosC_bd ((2 * i + 1) * k * 64 / n)
    have hm := mul_abs hx.1 hx.2 hc.1 hc.2
    have e : ((i + 1 : Nat) : Int) * (d * 16384) = (i : Int) * (d * 16384) + d * 16384 := by
      rw [Int.natCast_add, Int.add_mul]; simp
    rw [e]
    simp only [trS]
    omega
theorem trS_bd64 {l : List Int} (h : allR (-65536) 65536 l = true) (n k i : Nat) (hi : i ≤ 64) : -68719476736 ≤ trS l n k i ∧ trS l n k i ≤ 68719476736 := by
  have := trS_bd (d := 65536) (by omega) h n k i
  omega
/-- the other way to the same index -/
theorem idx_eq {n : Nat} (h : lenOk n = true) (a k : Nat) : a * k * (64 / n) = a * k * 64 / n := by
  have hd : n ∣ 64 := by
    simp only [lenOk, Bool.or_eq_true, beq_iff_eq] at h
    rcases h with (((((rfl | rfl) | rfl) | rfl) | rfl) | rfl) | rfl <;> decide
  exact (Nat.mul_div_assoc _ hd).symm
end Ear
/- Plain facts: a list that is filled, or mapped, one by one -/
namespace Ear

/-- n zeros, of which the first k are filled -/
def fillTo (f : Nat → Int) (n k : Nat) : List Int := (List.range n).map fun q => if q < k then f q else 0
theorem fillTo_length (f : Nat → Int) (n k : Nat) : (fillTo f n k).length = n := by simp [fillTo]
theorem fillTo_zero (f : Nat → Int) (n : Nat) : fillTo f n 0 = List.replicate n 0 := by
  apply List.ext_getElem (by simp [fillTo])
  intro q h1 h2
  simp [fillTo]
theorem fillTo_all (f : Nat → Int) (n : Nat) : fillTo f n n = (List.range n).map f := by
  apply List.ext_getElem (by simp [fillTo])
  intro q h1 h2
  simp only [fillTo, List.length_map, List.length_range] at h1
  simp only [fillTo, List.getElem_map, List.getElem_range]
  rw [if_pos h1]
theorem fillTo_get (f : Nat → Int) (n k : Nat) (hk : k < n) : (fillTo f n k)[k]? = some 0 := by
  rw [List.getElem?_eq_getElem (by simpa [fillTo] using hk)]
  simp [fillTo]
theorem fillTo_set (f : Nat → Int) (n k : Nat) (v : Int) (h : v = f k) : (fillTo f n k).set k v = fillTo f n (k + 1) := by
  subst h
  apply List.ext_getElem (by simp [fillTo])
  intro q h1 h2
  rw [List.getElem_set]
  simp only [fillTo, List.getElem_map, List.getElem_range]
  by_cases h : k = q
  · subst h; simp
  · rw [if_neg h]
    by_cases h' : q < k
    · rw [if_pos h', if_pos (by omega)]
    · rw [if_neg h', if_neg (by omega)]
/-- a list of which the first k are mapped -/
def mapTo (f : Int → Int) (l : List Int) (k : Nat) : List Int := (List.range l.length).map fun q => if q < k then f (l[q]?.getD 0) else l[q]?.getD 0
theorem mapTo_length (f : Int → Int) (l : List Int) (k : Nat) : (mapTo f l k).length = l.length := by simp [mapTo]
theorem mapTo_zero (f : Int → Int) (l : List Int) : mapTo f l 0 = l := by
  apply List.ext_getElem (by simp [mapTo])
  intro q h1 h2
  simp [mapTo, List.getElem?_eq_getElem h2]
theorem mapTo_all (f : Int → Int) (l : List Int) : mapTo f l l.length = l.map f := by
  apply List.ext_getElem (by simp [mapTo])
  intro q h1 h2
  simp only [mapTo, List.length_map, List.length_range] at h1
  simp only [mapTo, List.getElem_map, List.getElem_range]
  rw [if_pos h1, List.getElem?_eq_getElem h1]; rfl
theorem mapTo_get (f : Int → Int) (l : List Int) (k : Nat) (hk : k < l.length) : (mapTo f l k)[k]? = some (l[k]?.getD 0) := by
  rw [List.getElem?_eq_getElem (by simpa [mapTo] using hk)]
  simp [mapTo]
theorem mapTo_set (f : Int → Int) (l : List Int) (k : Nat) (v : Int) (h : v = f (l[k]?.getD 0)) : (mapTo f l k).set k v = mapTo f l (k + 1) := by
  subst h
  apply List.ext_getElem (by simp [mapTo])
  intro q h1 h2
  rw [List.getElem_set]
  simp only [mapTo, List.getElem_map, List.getElem_range]
  by_cases h : k = q
  · subst h; simp
  · rw [if_neg h]
    by_cases h' : q < k
    · rw [if_pos h', if_pos (by omega)]
    · rw [if_neg h', if_neg (by omega)]
theorem range_map_get (l : List Int) (f : Int → Int) : (List.range l.length).map (fun q => f (l[q]?.getD 0)) = l.map f := by
  apply List.ext_getElem (by simp)
  intro q h1 h2
  simp only [List.length_map, List.length_range] at h1
  simp only [List.getElem_map, List.getElem_range]
  rw [List.getElem?_eq_getElem h1]; rfl
end Ear
/- Plain facts: vectors, distances, the nearest codeword, means, differences -/
namespace Ear

/-- a vector of n components -/
def okV (n : Nat) (x : List Int) : Bool := x.length == n && decide (1 ≤ x.length) && decide (x.length ≤ 64) && allR (-1048576) 1048576 x
/-- the components of the first -/
def len0 (vs : List (List Int)) : Nat := (vs.headD []).length
def vecOk (vs : List (List Int)) : Bool := vs.all (okV (len0 vs))
/-- the error of a list of vectors -/
def vecR (vs : List (List Int)) : Int := if 10000 < vs.length then 5 else if vecOk vs = true then 0 else 2
theorem okV_iff {n : Nat} {x : List Int} : okV n x = true ↔ x.length = n ∧ 1 ≤ x.length ∧ x.length ≤ 64 ∧ allR (-1048576) 1048576 x = true := by
  simp [okV, and_assoc]
/-- a codebook -/
def bookOk (vs : List (List Int)) : Bool := decide (1 ≤ vs.length) && decide (vs.length ≤ 256) && vecOk vs
/-- the error of vectors and a codebook -/
def fitR (vs bs : List (List Int)) : Int := if 10000 < vs.length ∨ 10000 < bs.length then 5 else if vecOk vs = true ∧ bookOk bs = true ∧ (vs = [] ∨ len0 vs = len0 bs) then 0 else 2

theorem sq_nn (x : Int) : 0 ≤ x * x := by
  rcases Int.le_total 0 x with h | h
  · exact Int.mul_nonneg h h
  · have := Int.mul_nonneg (show 0 ≤ -x by omega) (show 0 ≤ -x by omega)
    rwa [Int.neg_mul_neg] at this
theorem sqv_bd {x b : Int} (h : -b ≤ x) (h' : x ≤ b) : x * x ≤ b * b := by
  have := Int.mul_nonneg (show 0 ≤ b - x by omega) (show 0 ≤ b + x by omega)
  rw [Int.sub_mul, Int.mul_add, Int.mul_add, Int.mul_comm x b] at this
  omega
theorem getD_bd {lo hi : Int} {l : List Int} (h : allR lo hi l = true) (h0 : lo ≤ 0) (h1 : 0 ≤ hi) (k : Nat) : lo ≤ l[k]?.getD 0 ∧ l[k]?.getD 0 ≤ hi := by
  by_cases hk : k < l.length
  · rw [List.getElem?_eq_getElem hk]; exact allR_get h hk
  · rw [List.getElem?_eq_none (by omega)]; exact ⟨h0, h1⟩
/-- the distance, of the first k components -/
def dsK (v c : List Int) : Nat → Int
  | 0 => 0
  | k + 1 => dsK v c k + (v[k]?.getD 0 - c[k]?.getD 0) * (v[k]?.getD 0 - c[k]?.getD 0)
def dst (v c : List Int) : Int := dsK v c c.length
theorem dsK_mono (v c : List Int) {k m : Nat} (h : k ≤ m) : dsK v c k ≤ dsK v c m := by
  induction m with
  | zero => have : k = 0 := by omega
            subst this; exact Int.le_refl _
  | succ m ih =>
    by_cases hk : k = m + 1
    · subst hk; exact Int.le_refl _
    · have := ih (by omega)
      have h2 := sq_nn (v[m]?.getD 0 - c[m]?.getD 0)
      show _ ≤ dsK v c m + _
      omega
theorem dsK_nn (v c : List Int) (k : Nat) : 0 ≤ dsK v c k := dsK_mono v c (Nat.zero_le k)
theorem ds_term {v c : List Int} (hv : allR (-1048576) 1048576 v = true) (hc : allR (-1048576) 1048576 c = true) (k : Nat) :
    (v[k]?.getD 0 - c[k]?.getD 0) * (v[k]?.getD 0 - c[k]?.getD 0) ≤ 4398046511104 := by
  have h1 := getD_bd hv (by omega) (by omega) k
  have h2 := getD_bd hc (by omega) (by omega) k
  exact sqv_bd (b := 2097152) (by omega) (by omega)
theorem dsK_bd {v c : List Int} (hv : allR (-1048576) 1048576 v = true) (hc : allR (-1048576) 1048576 c = true) (k : Nat) : dsK v c k ≤ k * 4398046511104 := by
  induction k with
  | zero => simp [dsK]
  | succ k ih =>
    have := ds_term hv hc k
    show dsK v c k + _ ≤ _
    omega
/-- the nearest of the first i codewords: its place, and its distance -/
def nrK (v : List Int) (bs : List (List Int)) : Nat → Int × Int
  | 0 => (-1, 4611686018427387904)
  | i + 1 => if dst v (bs[i]?.getD []) < (nrK v bs i).2 then (i, dst v (bs[i]?.getD [])) else nrK v bs i
def nr (v : List Int) (bs : List (List Int)) : Int × Int := nrK v bs bs.length
theorem nrK_yes {v : List Int} {bs : List (List Int)} {i : Nat} (h : dst v (bs[i]?.getD []) < (nrK v bs i).2) : nrK v bs (i + 1) = ((i : Int), dst v (bs[i]?.getD [])) := if_pos h
theorem nrK_no {v : List Int} {bs : List (List Int)} {i : Nat} (h : ¬ dst v (bs[i]?.getD []) < (nrK v bs i).2) : nrK v bs (i + 1) = nrK v bs i := if_neg h
theorem nrK_bd (v : List Int) (bs : List (List Int)) (i : Nat) : -1 ≤ (nrK v bs i).1 ∧ (nrK v bs i).1 < i ∧ 0 ≤ (nrK v bs i).2 ∧ (nrK v bs i).2 ≤ 4611686018427387904 := by
  induction i with
  | zero => exact ⟨by simp [nrK], by simp [nrK], by simp [nrK], by simp [nrK]⟩
  | succ i ih =>
    by_cases h : dst v (bs[i]?.getD []) < (nrK v bs i).2
    · rw [nrK_yes h]
      have := dsK_nn v (bs[i]?.getD []) (bs[i]?.getD []).length
      unfold dst at h ⊢
      refine ⟨?_, ?_, this, ?_⟩ <;> simp only [] <;> omega
    · rw [nrK_no h]; omega
/-- from the first on there is a nearest one -/
theorem nrK_at {v : List Int} {bs : List (List Int)} (hb : ∀ x ∈ bs, dst v x < 4611686018427387904) {i : Nat} (h1 : 1 ≤ i) (h2 : i ≤ bs.length) :
    ∃ a : Nat, a < i ∧ (nrK v bs i).1 = a ∧ (nrK v bs i).2 = dst v (bs[a]?.getD []) := by
  induction i with
  | zero => omega
  | succ i ih =>
    by_cases h : dst v (bs[i]?.getD []) < (nrK v bs i).2
    · rw [nrK_yes h]; exact ⟨i, by omega, rfl, rfl⟩
    · rw [nrK_no h]
      by_cases hi : i = 0
      · subst hi
        exfalso
        apply h
        rw [List.getElem?_eq_getElem (by omega)]
        exact hb _ (List.getElem_mem _)
      · obtain ⟨a, h3, h4, h5⟩ := ih (by omega) (by omega)
        exact ⟨a, by omega, h4, h5⟩
theorem nr_at {v : List Int} {bs : List (List Int)} (hb : ∀ x ∈ bs, dst v x < 4611686018427387904) (h : 0 < bs.length) :
    ∃ a : Nat, a < bs.length ∧ (nr v bs).1 = a ∧ (nr v bs).2 = dst v (bs[a]?.getD []) := nrK_at hb h (Nat.le_refl _)
/-- the sum of a component, over the first t -/
def colS (vs : List (List Int)) (c : Nat) : Nat → Int
  | 0 => 0
  | t + 1 => colS vs c t + (vs[t]?.getD [])[c]?.getD 0
theorem colS_bd {vs : List (List Int)} (h : ∀ x ∈ vs, allR (-1048576) 1048576 x = true) (c t : Nat) : -(t * 1048576) ≤ colS vs c t ∧ colS vs c t ≤ t * 1048576 := by
  induction t with
  | zero => simp [colS]
  | succ t ih =>
    have h2 : -1048576 ≤ (vs[t]?.getD [])[c]?.getD 0 ∧ (vs[t]?.getD [])[c]?.getD 0 ≤ 1048576 := by
      by_cases ht : t < vs.length
      · rw [List.getElem?_eq_getElem ht]; exact getD_bd (h _ (List.getElem_mem ht)) (by omega) (by omega) c
      · rw [List.getElem?_eq_none (show vs.length ≤ t by omega)]; simp
    simp only [colS]
    generalize (vs[t]?.getD [])[c]?.getD 0 = x at *
    omega
/-- the sums of the first t -/
def sumV (vs : List (List Int)) (n t : Nat) : List Int := (List.range n).map fun c => colS vs c t
theorem sumV_length (vs : List (List Int)) (n t : Nat) : (sumV vs n t).length = n := by simp [sumV]
theorem sumV_zero (vs : List (List Int)) (n : Nat) : sumV vs n 0 = List.replicate n 0 := by
  apply List.ext_getElem (by simp [sumV])
  intro q h1 h2
  simp [sumV, colS]
/-- the mean -/
def meanL (vs : List (List Int)) : List Int := (sumV vs (len0 vs) vs.length).map (rnd · vs.length)
theorem meanL_length (vs : List (List Int)) : (meanL vs).length = len0 vs := by simp [meanL, sumV_length]
/-- what a function makes of two lists -/
def cmb (f : Int → Int → Int) (a b : List Int) : List Int := (List.range a.length).map fun q => f (a[q]?.getD 0) (b[q]?.getD 0)
theorem cmb_length (f : Int → Int → Int) (a b : List Int) : (cmb f a b).length = a.length := by simp [cmb]
theorem sumV_next (vs : List (List Int)) (n t : Nat) : cmb (· + ·) (sumV vs n t) (vs[t]?.getD []) = sumV vs n (t + 1) := by
  apply List.ext_getElem (by simp [sumV, cmb])
  intro q h1 h2
  have hq : q < n := by simpa [sumV] using h2
  simp only [cmb, sumV, List.getElem_map, List.getElem_range, List.getElem?_map, List.getElem?_range hq]
  rfl
/-- the vectors with differences -/
def difAt (vs : List (List Int)) (t : Nat) : List Int := vs[t]?.getD [] ++ cmb (· - ·) (vs[min (t + 1) (vs.length - 1)]?.getD []) (vs[t - 1]?.getD [])
def difL (vs : List (List Int)) : List (List Int) := (List.range vs.length).map (difAt vs)
theorem difL_length (vs : List (List Int)) : (difL vs).length = vs.length := by simp [difL]
/-- the centered vectors -/
def cenL (vs : List (List Int)) : List (List Int) := vs.map fun x => cmb (· - ·) x (meanL vs)
/-- the vectors that are nearest to a codeword -/
def ownL (vs bs : List (List Int)) (i : Nat) : List (List Int) := vs.filter fun x => (nr x bs).1 == (i : Int)
/-- the improved codebook -/
def impAt (vs bs : List (List Int)) (i : Nat) : List Int := if ownL vs bs i = [] then bs[i]?.getD [] else meanL (ownL vs bs i)
def impL (vs bs : List (List Int)) : List (List Int) := (List.range bs.length).map (impAt vs bs)
theorem impL_length (vs bs : List (List Int)) : (impL vs bs).length = bs.length := by simp [impL]

theorem vecR_ok {vs : List (List Int)} : vecR vs = 0 ↔ vs.length ≤ 10000 ∧ vecOk vs = true := by
  unfold vecR
  split
  · simp; omega
  · split <;> simp_all <;> omega
theorem vecOk_mem {vs : List (List Int)} (h : vecOk vs = true) {x : List Int} (hx : x ∈ vs) : x.length = len0 vs ∧ 1 ≤ x.length ∧ x.length ≤ 64 ∧ allR (-1048576) 1048576 x = true :=
  okV_iff.1 (List.all_eq_true.1 h x hx)
theorem bookOk_iff {vs : List (List Int)} : bookOk vs = true ↔ 1 ≤ vs.length ∧ vs.length ≤ 256 ∧ vecOk vs = true := by simp [bookOk, and_assoc]
theorem fitR_ok {vs bs : List (List Int)} : fitR vs bs = 0 ↔ vs.length ≤ 10000 ∧ vecOk vs = true ∧ bookOk bs = true ∧ (vs = [] ∨ len0 vs = len0 bs) := by
  unfold fitR
  split
  · rename_i h
    constructor
    · intro h0; cases h0
    · rintro ⟨h1, _, h3, _⟩; have := bookOk_iff.1 h3; omega
  · rename_i h
    split
    · rename_i h2; simp; exact ⟨by omega, h2⟩
    · rename_i h2
      constructor
      · intro h0; cases h0
      · rintro ⟨h1, h3⟩; exact absurd h3 h2
theorem vall_take_succ {p : List Int → Bool} {L : List (List Int)} {k : Nat} (hk : k < L.length) (h : (L.take k).all p = true) (hx : p L[k] = true) : (L.take (k + 1)).all p = true := by
  rw [List.take_succ_eq_append_getElem hk, List.all_append, h]; simp [hx]
theorem vall_false_at {p : List Int → Bool} {L : List (List Int)} {k : Nat} (hk : k < L.length) (hx : p L[k] = false) : L.all p = false := by
  rw [List.all_eq_false]
  exact ⟨L[k], List.getElem_mem hk, by simp [hx]⟩
end Ear
/- Plain facts: numbers in digits of 32 bits; the logarithm -/
namespace Ear

abbrev BB : Int := 4294967296
/-- the value of digits -/
def vl : List Int → Int
  | [] => 0
  | d :: l => d + BB * vl l
/-- all are digits -/
def dgs (l : List Int) : Prop := ∀ x ∈ l, 0 ≤ x ∧ x ≤ 4294967295
theorem BB_pos (k : Nat) : 0 < BB ^ k := Int.pow_pos (by decide)
theorem BB_succ (k : Nat) : BB ^ (k + 1) = BB * BB ^ k := by rw [Int.pow_succ, Int.mul_comm]
theorem vl_append (a b : List Int) : vl (a ++ b) = vl a + BB ^ a.length * vl b := by
  induction a with
  | nil => simp [vl]
  | cons d a ih => rw [List.cons_append, vl, vl, ih, List.length_cons, BB_succ, Int.mul_add, Int.mul_assoc, Int.add_assoc]
theorem vl_take_succ (l : List Int) (k : Nat) (hk : k < l.length) : vl (l.take (k + 1)) = vl (l.take k) + BB ^ k * l[k]?.getD 0 := by
  rw [List.take_succ_eq_append_getElem hk, vl_append, List.getElem?_eq_getElem hk, List.length_take, Nat.min_eq_left (by omega)]
  simp [vl]
theorem vl_replicate (n : Nat) : vl (List.replicate n 0) = 0 := by
  induction n with
  | zero => rfl
  | succ n ih => rw [List.replicate_succ, vl, ih]; rfl
theorem vl_set (l : List Int) (k : Nat) (v : Int) (hk : k < l.length) : vl (l.set k v) = vl l + BB ^ k * (v - l[k]?.getD 0) := by
  induction l generalizing k with
  | nil => simp at hk
  | cons d l ih =>
    cases k with
    | zero => simp [vl]; omega
    | succ k =>
      rw [List.set_cons_succ, vl, vl, ih k (by simpa using hk), BB_succ, List.getElem?_cons_succ, Int.mul_add, Int.mul_assoc, Int.add_assoc]
theorem vl_bd {l : List Int} (h : dgs l) : 0 ≤ vl l ∧ vl l < BB ^ l.length := by
  induction l with
  | nil => simp [vl]
  | cons d l ih =>
    have h1 := h d (List.mem_cons_self ..)
    have h2 := ih fun x hx => h x (List.mem_cons_of_mem _ hx)
    rw [vl, List.length_cons, BB_succ]
    have h3 : BB * (vl l + 1) ≤ BB * BB ^ l.length := Int.mul_le_mul_of_nonneg_left (by omega) (by decide)
    have h4 : 0 ≤ BB * vl l := Int.mul_nonneg (by decide) h2.1
    rw [Int.mul_add] at h3
    simp only [BB] at *
    omega
theorem dgs_at {l : List Int} (h : dgs l) (k : Nat) : 0 ≤ l[k]?.getD 0 ∧ l[k]?.getD 0 ≤ 4294967295 := by
  by_cases hk : k < l.length
  · rw [List.getElem?_eq_getElem hk]; exact h _ (List.getElem_mem hk)
  · rw [List.getElem?_eq_none (by omega)]; simp
theorem dgs_set {l : List Int} (h : dgs l) (k : Nat) {v : Int} (h0 : 0 ≤ v) (h1 : v ≤ 4294967295) : dgs (l.set k v) := by
  intro x hx
  rcases List.mem_or_eq_of_mem_set hx with h2 | h2
  · exact h x h2
  · omega
theorem dgs_replicate (n : Nat) : dgs (List.replicate n 0) := by
  intro x hx; have := List.eq_of_mem_replicate hx; omega
theorem dgs_take {l : List Int} (h : dgs l) (k : Nat) : dgs (l.take k) := fun x hx => h x (List.mem_of_mem_take hx)
/-- zeros from k on -/
def zer (l : List Int) (k : Nat) : Prop := ∀ q, k ≤ q → l[q]?.getD 0 = 0
theorem vl_zer {l : List Int} {k : Nat} (h : zer l k) : vl l = vl (l.take k) := by
  have e : l = l.take k ++ l.drop k := (List.take_append_drop k l).symm
  have hz : vl (l.drop k) = 0 := by
    have : l.drop k = List.replicate (l.drop k).length 0 := by
      apply List.ext_getElem (by simp)
      intro q h1 h2
      have := h (k + q) (by omega)
      rw [List.getElem?_eq_getElem (by simp at h1; omega)] at this
      simpa using this
    rw [this, vl_replicate]
  conv => lhs; rw [e]
  rw [vl_append, hz]; simp
/-- a row of the product: before a digit -/
structure SqIn (a out : List Int) (i j : Nat) (c : Int) : Prop where
  len : out.length = 2 * a.length
  dig : dgs out
  zer : zer out (i + a.length)
  c0 : 0 ≤ c
  c1 : c ≤ 4294967295
  val : vl out + BB ^ (i + j) * c = vl (a.take i) * vl a + BB ^ i * (a[i]?.getD 0 * vl (a.take j))
theorem sq_prod {x y : Int} (hx : 0 ≤ x ∧ x ≤ 4294967295) (hy : 0 ≤ y ∧ y ≤ 4294967295) : 0 ≤ x * y ∧ x * y ≤ 18446744065119617025 := by
  have h1 := Int.mul_nonneg hx.1 hy.1
  have h2 : x * y ≤ 4294967295 * 4294967295 := Int.mul_le_mul hx.2 hy.2 hy.1 (by decide)
  omega
theorem SqIn.next {a out : List Int} {i j : Nat} {c : Int} (h : SqIn a out i j c) (ha : dgs a) (hi : i < a.length) (hj : j < a.length) {t : Int} (ht : t = c + (out[i + j]?.getD 0 + a[i]?.getD 0 * a[j]?.getD 0)) :
    SqIn a (out.set (i + j) (t % 4294967296)) i (j + 1) (t / 4294967296) := by
  have hx := dgs_at ha i
  have hy := dgs_at ha j
  have hp := sq_prod hx hy
  have ho := dgs_at h.dig (i + j)
  have h0 := h.c0
  have h1 := h.c1
  refine ⟨by simp [h.len], dgs_set h.dig _ (by omega) (by omega), ?_, by omega, by omega, ?_⟩
  · intro q hq
    rw [List.getElem?_set_ne (by omega)]
    exact h.zer q hq
  · rw [vl_set _ _ _ (by rw [h.len]; omega), vl_take_succ a j hj]
    have hv := h.val
    have hd := Int.mul_ediv_add_emod t 4294967296
    have e1 : BB ^ (i + (j + 1)) * (t / 4294967296) = BB ^ (i + j) * (BB * (t / 4294967296)) := by
      rw [← Nat.add_assoc, Int.pow_succ, Int.mul_assoc]
    have e2 : BB * (t / 4294967296) = t - t % 4294967296 := by simp only [BB]; omega
    have e3 : BB ^ i * (a[i]?.getD 0 * (vl (a.take j) + BB ^ j * a[j]?.getD 0)) = BB ^ i * (a[i]?.getD 0 * vl (a.take j)) + BB ^ (i + j) * (a[i]?.getD 0 * a[j]?.getD 0) := by
      rw [Int.mul_add, Int.mul_add, Int.pow_add]
      congr 1
      rw [Int.mul_assoc, ← Int.mul_assoc (a[i]?.getD 0), Int.mul_comm (a[i]?.getD 0) (BB ^ j), Int.mul_assoc]
    rw [e1, e2, e3]
    have e4 : BB ^ (i + j) * (t % 4294967296 - out[i + j]?.getD 0) + BB ^ (i + j) * (t - t % 4294967296) = BB ^ (i + j) * c + BB ^ (i + j) * (a[i]?.getD 0 * a[j]?.getD 0) := by
      rw [← Int.mul_add, ← Int.mul_add]
      congr 1
      omega
    omega
/-- a row of the product: between rows -/
structure SqOut (a out : List Int) (i : Nat) : Prop where
  len : out.length = 2 * a.length
  dig : dgs out
  zer : zer out (i + a.length)
  val : vl out = vl (a.take i) * vl a
theorem SqOut.start (a : List Int) : SqOut a (List.replicate (2 * a.length) 0) 0 := by
  refine ⟨by simp, dgs_replicate _, fun q _ => ?_, by rw [vl_replicate]; simp [vl]⟩
  by_cases hq : q < 2 * a.length
  · rw [List.getElem?_eq_getElem (by simpa using hq)]; simp
  · rw [List.getElem?_eq_none (by simpa using Nat.le_of_not_lt hq)]; rfl
theorem SqOut.enter {a out : List Int} {i : Nat} (h : SqOut a out i) : SqIn a out i 0 0 :=
  ⟨h.len, h.dig, h.zer, by omega, by omega, by rw [h.val]; simp [vl]⟩
theorem SqIn.leave {a out : List Int} {i : Nat} {c : Int} (h : SqIn a out i a.length c) (hi : i < a.length) : SqOut a (out.set (i + a.length) c) (i + 1) := by
  refine ⟨by simp [h.len], dgs_set h.dig _ h.c0 h.c1, ?_, ?_⟩
  · intro q hq
    rw [List.getElem?_set_ne (by omega)]
    exact h.zer q (by omega)
  · have hv := h.val
    rw [List.take_length] at hv
    rw [vl_set _ _ _ (by rw [h.len]; omega), h.zer _ (Nat.le_refl _), vl_take_succ a i hi, Int.sub_zero, hv, Int.add_mul, Int.mul_assoc]
theorem SqOut.done {a out : List Int} (h : SqOut a out a.length) : vl out = vl a * vl a := by
  rw [h.val, List.take_length]
end Ear
/- Plain facts: the logarithm, by the highest digit -/
namespace Ear

theorem bitAux_spec : ∀ (f x : Nat), x < 2 ^ f → x ≠ 0 → 1 ≤ Go.Lib.bitLenAux f x ∧ 2 ^ (Go.Lib.bitLenAux f x - 1) ≤ x ∧ x < 2 ^ Go.Lib.bitLenAux f x := by
  intro f
  induction f with
  | zero => intro x h h0; simp at h; omega
  | succ f ih =>
    intro x h h0
    have hz : Go.Lib.bitLenAux f 0 = 0 := by cases f <;> simp [Go.Lib.bitLenAux]
    rw [Go.Lib.bitLenAux, if_neg h0]
    by_cases hy : x / 2 = 0
    · rw [hy, hz]
      have : x = 1 := by omega
      subst this
      decide
    · have h2 : x / 2 < 2 ^ f := by rw [Nat.pow_succ] at h; omega
      obtain ⟨h3, h4, h5⟩ := ih (x / 2) h2 hy
      generalize Go.Lib.bitLenAux f (x / 2) = L at *
      have e1 : 2 ^ L = 2 ^ (L - 1) * 2 := by rw [← Nat.pow_succ]; congr 1; omega
      have e2 : 2 ^ (1 + L) = 2 ^ L * 2 := by rw [Nat.add_comm, Nat.pow_succ]
      have e3 : 1 + L - 1 = L := by omega
      rw [e3, e2]
      omega
theorem bitLen_spec {x : Nat} (h : x < 18446744073709551616) (h0 : x ≠ 0) : 1 ≤ Go.Lib.bitLen x ∧ 2 ^ (Go.Lib.bitLen x - 1) ≤ x ∧ x < 2 ^ Go.Lib.bitLen x := bitAux_spec 64 x (by omega) h0
theorem BB_two (i : Nat) : BB ^ i = ((2 ^ (32 * i) : Nat) : Int) := by
  induction i with
  | zero => rfl
  | succ i ih =>
    rw [Int.pow_succ, ih, Nat.mul_add, Nat.pow_add]
    simp [BB]
theorem log2_at {l : List Int} {i : Nat} (hd : dgs l) (hz : zer l (i + 1)) (hi : i < l.length) (h0 : l[i]?.getD 0 ≠ 0) :
    (vl l).toNat.log2 = 32 * i + Go.Lib.bitLen (l[i]?.getD 0).toNat - 1 := by
  have hv : vl l = vl (l.take i) + BB ^ i * l[i]?.getD 0 := by rw [vl_zer hz, vl_take_succ l i hi]
  have hb := vl_bd (dgs_take hd i)
  rw [List.length_take, Nat.min_eq_left (by omega)] at hb
  have hx := dgs_at hd i
  generalize l[i]?.getD 0 = x at *
  obtain ⟨d, rfl⟩ := Int.eq_ofNat_of_zero_le hx.1
  obtain ⟨h1, h2, h3⟩ := bitLen_spec (x := d) (by omega) (by omega)
  rw [Int.toNat_natCast]
  generalize Go.Lib.bitLen d = L at *
  rw [BB_two] at hv hb
  generalize vl (l.take i) = r at *
  obtain ⟨r, rfl⟩ := Int.eq_ofNat_of_zero_le hb.1
  have hr : r < 2 ^ (32 * i) := by have := hb.2; omega
  have hV : (vl l).toNat = r + 2 ^ (32 * i) * d := by
    rw [hv, ← Int.natCast_mul, ← Int.natCast_add, Int.toNat_natCast]
  rw [hV]
  have a1 : 2 ^ (32 * i) * 2 ^ (L - 1) ≤ 2 ^ (32 * i) * d := Nat.mul_le_mul_left _ h2
  have a2 : 2 ^ (32 * i) * (d + 1) ≤ 2 ^ (32 * i) * 2 ^ L := Nat.mul_le_mul_left _ h3
  rw [← Nat.pow_add] at a1 a2
  rw [Nat.mul_add] at a2
  have hne : r + 2 ^ (32 * i) * d ≠ 0 := by
    have : 0 < 2 ^ (32 * i + (L - 1)) := Nat.pow_pos (by decide)
    omega
  rw [Nat.log2_eq_iff hne]
  have e1 : 32 * i + L - 1 = 32 * i + (L - 1) := by omega
  have e2 : 32 * i + L - 1 + 1 = 32 * i + L := by omega
  rw [e2, e1]
  omega
/-- the logarithm -/
def lg (e : Nat) : Int := if e = 0 then -16 else ((e ^ 16).log2 : Nat)
end Ear
