/- Plain law: the inverse transform of a transform is near the list -/
import Derived.Test.YtfapmghhmkekaaaDoorMb
import Derived.Test.YtfapmghhmkekaaaDoorMc
namespace Ear

/-- the products of two rows of cosines: the first m terms -/
def kS (n i j : Nat) : Nat → Int
  | 0 => 268435456
  | m + 1 => kS n i j m + 2 * (cosC ((2 * i + 1) * (m + 1) * 64 / n) * cosC ((2 * j + 1) * (m + 1) * 64 / n))
theorem sumN_mul (c : Int) (f : Nat → Int) (n : Nat) : sumN (fun i => c * f i) n = c * sumN f n := by
  induction n with
  | zero => simp [sumN]
  | succ n ih => simp only [sumN, ih, Int.mul_add]
theorem cosC_zero : cosC 0 = 16384 := by decide
theorem inv_terms {l : List Int} (i : Nat) : ∀ m, m < l.length → invS (trf l) l.length i m = sumN (fun j => l[j]?.getD 0 * kS l.length i j m) l.length := by
  intro m
  induction m with
  | zero =>
    intro hm
    simp only [invS, kS]
    rw [trf_get hm, trS_sumN, ← sumN_mul]
    apply sumN_congr
    intro j hj
    rw [Nat.mul_zero, Nat.zero_mul, Nat.zero_div, cosC_zero, ← Int.mul_assoc, Int.mul_comm 16384, Int.mul_assoc]
    rfl
  | succ m ih =>
    intro hm
    simp only [invS, kS]
    rw [ih (by omega), trf_get hm, trS_sumN]
    have e : 2 * sumN (fun i => l[i]?.getD 0 * cosC ((2 * i + 1) * (m + 1) * 64 / l.length)) l.length * cosC ((2 * i + 1) * (m + 1) * 64 / l.length) =
        sumN (fun j => l[j]?.getD 0 * (2 * (cosC ((2 * i + 1) * (m + 1) * 64 / l.length) * cosC ((2 * j + 1) * (m + 1) * 64 / l.length)))) l.length := by
      rw [Int.mul_comm 2, Int.mul_assoc, Int.mul_comm, ← sumN_mul]
      apply sumN_congr
      intro j hj
      generalize cosC ((2 * i + 1) * (m + 1) * 64 / l.length) = c
      generalize cosC ((2 * j + 1) * (m + 1) * 64 / l.length) = d
      rw [Int.mul_comm (2 * c), Int.mul_assoc, Int.mul_comm d, Int.mul_assoc]
    rw [e]
    have : ∀ j, j < l.length → l[j]?.getD 0 * (kS l.length i j m + 2 * (cosC ((2 * i + 1) * (m + 1) * 64 / l.length) * cosC ((2 * j + 1) * (m + 1) * 64 / l.length))) =
        l[j]?.getD 0 * kS l.length i j m + l[j]?.getD 0 * (2 * (cosC ((2 * i + 1) * (m + 1) * 64 / l.length) * cosC ((2 * j + 1) * (m + 1) * 64 / l.length))) := fun j _ => Int.mul_add ..
    rw [sumN_congr this, sumN_add]
theorem nab (x : Int) : -(x.natAbs : Int) ≤ x ∧ x ≤ x.natAbs := by
  rcases Int.natAbs_eq x with h | h <;> omega
/-- how far the products are from those of a basis -/
def devS (n i : Nat) : Nat → Int
  | 0 => 0
  | j + 1 => devS n i j + (kS n i j (n - 1) - (if i = j then (n : Int) * 268435456 else 0)).natAbs
theorem dev_sum {l : List Int} {M : Int} (_ : 0 ≤ M) (h : ∀ j : Nat, -M ≤ l[j]?.getD 0 ∧ l[j]?.getD 0 ≤ M) (n i : Nat) : ∀ m,
    -(M * devS n i m) ≤ sumN (fun j => l[j]?.getD 0 * kS n i j (n - 1)) m - (if i < m then l[i]?.getD 0 * ((n : Int) * 268435456) else 0) ∧
    sumN (fun j => l[j]?.getD 0 * kS n i j (n - 1)) m - (if i < m then l[i]?.getD 0 * ((n : Int) * 268435456) else 0) ≤ M * devS n i m := by
  intro m
  induction m with
  | zero => simp [sumN, devS]
  | succ m ih =>
    simp only [sumN, devS, Int.mul_add]
    have hx := h m
    by_cases e : i = m
    · subst e
      rw [if_neg (by omega)] at ih
      rw [show (if i < i + 1 then l[i]?.getD 0 * ((n : Int) * 268435456) else 0) = l[i]?.getD 0 * ((n : Int) * 268435456) from if_pos (by omega)]
      simp only [if_true]
      generalize hz : kS n i i (n - 1) - (n : Int) * 268435456 = z
      have hk : kS n i i (n - 1) = z + (n : Int) * 268435456 := by omega
      rw [hk, Int.mul_add]
      have := mul_abs (A := M) (B := z.natAbs) hx.1 hx.2 (nab z).1 (nab z).2
      omega
    · rw [if_neg e, Int.sub_zero]
      have e2 : (if i < m + 1 then l[i]?.getD 0 * ((n : Int) * 268435456) else 0) = (if i < m then l[i]?.getD 0 * ((n : Int) * 268435456) else 0) := by
        by_cases h2 : i < m
        · rw [if_pos h2, if_pos (by omega)]
        · rw [if_neg h2, if_neg (by omega)]
      rw [e2]
      have := mul_abs (A := M) (B := (kS n i m (n - 1)).natAbs) hx.1 hx.2 (nab _).1 (nab _).2
      omega
/-- all rows are near enough -/
def devOk (n : Nat) : Prop := ∀ i, i < n → devS n i n ≤ 32768 * (n * n : Nat)
theorem returns_near {l : List Int} (hd : devOk l.length) {M : Int} (h0 : 0 ≤ M) (h : ∀ j : Nat, -M ≤ l[j]?.getD 0 ∧ l[j]?.getD 0 ≤ M) {i : Nat} (hi : i < l.length) :
    16384 * ((l[i]?.getD 0 - invAt (trf l) i) - 1) ≤ 2 * l.length * M ∧ 16384 * (-(l[i]?.getD 0 - invAt (trf l) i) - 1) ≤ 2 * l.length * M := by
  have h1 := dev_sum h0 h l.length i l.length
  rw [if_pos hi, ← inv_terms i (l.length - 1) (by omega)] at h1
  have h2 := Int.mul_le_mul_of_nonneg_left (hd i hi) h0
  have hr := rnd_err (invS (trf l) l.length i (l.length - 1)) ((l.length * 268435456 : Nat) : Int) (by omega)
  unfold invAt
  rw [trf_length]
  generalize rnd (invS (trf l) l.length i (l.length - 1)) ((l.length * 268435456 : Nat) : Int) = y at *
  generalize invS (trf l) l.length i (l.length - 1) = S at *
  generalize l[i]?.getD 0 = x at *
  generalize devS l.length i l.length = D at *
  obtain ⟨n, hn⟩ : ∃ n : Int, n = l.length := ⟨_, rfl⟩
  have e1 : ((l.length * l.length : Nat) : Int) = n * n := by rw [hn]; simp
  have e2 : ((l.length * 268435456 : Nat) : Int) = n * 268435456 := by rw [hn]; simp
  rw [e1] at h2
  rw [e2] at hr
  rw [← hn] at h1 ⊢
  have hn1 : 1 ≤ n := by omega
  clear e1 e2 hd
  -- n * 2^28 times the claim
  have key : ∀ d : Int, (n * 268435456) * d ≤ M * (32768 * (n * n)) + n * 134217728 → 16384 * (d - 1) ≤ 2 * n * M := fun d hdd => by
    apply Decidable.byContradiction
    intro hc
    have h5 := Int.mul_le_mul_of_nonneg_left (show 2 * n * M + 1 ≤ 16384 * (d - 1) by omega) (show 0 ≤ n * 268435456 by omega)
    have e3 : n * 268435456 * (16384 * (d - 1)) = 16384 * (n * 268435456 * d) - 16384 * (n * 268435456) := by
      rw [Int.mul_comm (n * 268435456) (16384 * (d - 1)), Int.mul_assoc, Int.sub_mul, Int.one_mul, Int.mul_sub, Int.mul_comm d]
    have e4 : n * 268435456 * (2 * n * M + 1) = 536870912 * (M * (n * n)) + n * 268435456 := by
      rw [Int.mul_add, Int.mul_one]
      congr 1
      rw [Int.mul_comm n 268435456, Int.mul_assoc, Int.mul_assoc 2 n M, ← Int.mul_assoc n 2, Int.mul_comm n 2, Int.mul_assoc 2 n, ← Int.mul_assoc 268435456 2, Int.mul_comm M (n * n), Int.mul_assoc n n M]
      rfl
    have e5 : M * (32768 * (n * n)) = 32768 * (M * (n * n)) := by rw [← Int.mul_assoc, Int.mul_comm M, Int.mul_assoc]
    rw [e3, e4] at h5
    rw [e5] at hdd
    generalize n * 268435456 * d = u at *
    generalize M * (n * n) = v at *
    omega
  have e6 : x * (n * 268435456) = n * 268435456 * x := Int.mul_comm ..
  rw [e6] at h1
  constructor
  · apply key
    rw [Int.mul_sub]
    omega
  · apply key
    rw [Int.mul_neg, Int.mul_sub]
    omega
end Ear
