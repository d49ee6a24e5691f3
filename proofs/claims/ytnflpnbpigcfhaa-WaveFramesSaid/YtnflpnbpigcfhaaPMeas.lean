/- Plain: changes of sign and the peak of a list. -/
import Derived.Test.YtnflpnbpigcfhaaPWave
namespace Ear
/-- the changes of sign among the first k elements -/
def chgN (l : List Int) : Nat → Nat
  | 0 => 0
  | k + 1 => chgN l k + (if 1 ≤ k ∧ (decide (l[k - 1]?.getD 0 < 0) != decide (l[k]?.getD 0 < 0)) = true then 1 else 0)
theorem chgN_le (l : List Int) (k : Nat) : chgN l k ≤ k := by
  induction k with
  | zero => simp [chgN]
  | succ k ih => rw [chgN]; split <;> omega
theorem chgN_one (l : List Int) : chgN l 1 = 0 := by simp [chgN]
theorem chgN_yes {l : List Int} {k : Nat} (h : 1 ≤ k) (hd : (decide (l[k - 1]?.getD 0 < 0) != decide (l[k]?.getD 0 < 0)) = true) : chgN l (k + 1) = chgN l k + 1 := by rw [chgN, if_pos ⟨h, hd⟩]
theorem chgN_no {l : List Int} {k : Nat} (hd : (decide (l[k - 1]?.getD 0 < 0) != decide (l[k]?.getD 0 < 0)) = false) : chgN l (k + 1) = chgN l k := by rw [chgN, if_neg (by rw [hd]; simp)]; rfl
/-- the absolute value of an element -/
def ab (x : Int) : Int := if x < 0 then -x else x
theorem ab_nonneg (x : Int) : 0 ≤ ab x := by unfold ab; split <;> omega
/-- the index of the peak of the first k elements -/
def pkAt (l : List Int) : Nat → Int
  | 0 => -1
  | k + 1 => if pkAt l k < 0 ∨ ab (l[(pkAt l k).toNat]?.getD 0) < ab (l[k]?.getD 0) then (k : Int) else pkAt l k
/-- its absolute value -/
def pkM (l : List Int) (k : Nat) : Int := if pkAt l k < 0 then -1 else ab (l[(pkAt l k).toNat]?.getD 0)
theorem pkAt_bd (l : List Int) (k : Nat) : -1 ≤ pkAt l k ∧ pkAt l k < k ∧ (1 ≤ k → 0 ≤ pkAt l k) := by
  induction k with
  | zero => simp [pkAt]
  | succ k ih =>
    rw [pkAt]
    split
    · omega
    · rename_i h
      have : ¬ pkAt l k < 0 := fun h2 => h (.inl h2)
      omega
theorem pk_yes {l : List Int} {k : Nat} (h : pkM l k < ab (l[k]?.getD 0)) : pkAt l (k + 1) = k ∧ pkM l (k + 1) = ab (l[k]?.getD 0) := by
  have h1 : pkAt l (k + 1) = k := by
    unfold pkM at h
    rw [pkAt]
    split at h
    · rw [if_pos (.inl ‹_›)]
    · rw [if_pos (.inr h)]
  refine ⟨h1, ?_⟩
  unfold pkM
  rw [h1, if_neg (by omega)]
  simp
theorem pk_no {l : List Int} {k : Nat} (h : ab (l[k]?.getD 0) ≤ pkM l k) : pkAt l (k + 1) = pkAt l k ∧ pkM l (k + 1) = pkM l k := by
  have h1 : pkAt l (k + 1) = pkAt l k := by
    unfold pkM at h
    rw [pkAt]
    have := ab_nonneg (l[k]?.getD 0)
    split at h
    · omega
    · rw [if_neg (by omega)]
  refine ⟨h1, ?_⟩
  unfold pkM
  rw [h1]
theorem pkM_eq {l : List Int} {k j : Nat} (h : pkAt l k = (j : Int)) : pkM l k = ab (l[j]?.getD 0) := by
  unfold pkM
  rw [h, if_neg (by omega)]
  simp
end Ear
