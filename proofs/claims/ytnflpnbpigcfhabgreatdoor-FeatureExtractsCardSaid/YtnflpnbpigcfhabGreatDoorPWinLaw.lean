/- Plain: the weights of a window are symmetric, from 1 to 4096, and greatest in the middle. -/
import Derived.Test.YtnflpnbpigcfhabGreatDoorMa
namespace Ear
theorem rnd_mono {a a' b : Int} (h0 : 0 ≤ a) (h : a ≤ a') (hb : 1 ≤ b) : rnd a b ≤ rnd a' b := by
  rw [rnd_pos h0, rnd_pos (by omega)]
  exact Int.ediv_le_ediv (by omega) (by omega)
theorem wt_even (kind n d : Int) : wt kind n (-d) = wt kind n d := by
  unfold wt
  rw [Int.neg_mul_neg, show max (-d) (- -d) = max d (-d) by omega]
theorem winAt_sym {kind n : Int} {i j : Nat} (h : (i : Int) + j = n - 1) : winAt kind n i = winAt kind n j := by
  unfold winAt
  rw [← wt_even kind n (2 * (j : Int) - (n - 1))]
  congr 1
  omega
theorem sq_mono {d d' : Int} (h1 : 0 ≤ d) (h2 : d ≤ d') : d * d ≤ d' * d' := Int.mul_le_mul h2 h2 h1 (by omega)
theorem winAt_mono {kind n : Int} {i : Nat} (hn : 1 ≤ n) (hi : 2 * (i : Int) + 2 ≤ n - 1 + 0 ∨ 2 * ((i : Int) + 1) ≤ n - 1) : winAt kind n i ≤ winAt kind n (i + 1) := by
  have hi' : 2 * ((i : Int) + 1) ≤ n - 1 := by omega
  rw [winAt, winAt, ← wt_even kind n (2 * (i : Int) - (n - 1)), ← wt_even kind n (2 * ((i + 1 : Nat) : Int) - (n - 1))]
  generalize hx : -(2 * (i : Int) - (n - 1)) = x
  generalize hy : -(2 * ((i + 1 : Nat) : Int) - (n - 1)) = y
  have h1 : y ≤ x := by omega
  have h2 : 0 ≤ y := by omega
  have h3 : x ≤ n := by omega
  unfold wt
  split
  · omega
  · split
    · rw [show max x (-x) = x by omega, show max y (-y) = y by omega]
      exact rnd_mono (by omega) (by omega) (by omega)
    · have hs := sq_mono h2 h1
      have hs2 := sq_mono (show 0 ≤ x by omega) h3
      have h5 : (n + 1) * (n + 1) = n * n + 2 * n + 1 := by rw [Int.add_mul, Int.mul_add]; omega
      have h6 : 0 ≤ n * n := Int.mul_nonneg (by omega) (by omega)
      generalize (n + 1) * (n + 1) = q at *
      exact rnd_mono (by omega) (by omega) (by omega)
theorem wt_ge {kind n d : Int} (hn : 1 ≤ n) (hn2 : n ≤ 4096) (h1 : -(n - 1) ≤ d) (h2 : d ≤ n - 1) : 1 ≤ wt kind n d := by
  unfold wt
  split
  · omega
  · split
    · have hm : 0 ≤ max d (-d) ∧ max d (-d) ≤ n - 1 := by omega
      exact le_rnd (by omega) (by omega) (by omega)
    · have hs := sq_bd h1 h2
      have h5 : (n + 1) * (n + 1) = n * n + 2 * n + 1 := by rw [Int.add_mul, Int.mul_add]; omega
      have h7 : (n - 1) * (n - 1) = n * n - 2 * n + 1 := by rw [Int.sub_mul, Int.mul_sub]; omega
      have h6 : 0 ≤ n * n := Int.mul_nonneg (by omega) (by omega)
      have h8 : n * n ≤ 4096 * n := Int.mul_le_mul_of_nonneg_right hn2 (by omega)
      generalize (n + 1) * (n + 1) = q at *
      generalize (n - 1) * (n - 1) = q2 at *
      exact le_rnd (by omega) (by omega) (by omega)
theorem win_all {kind : Int} {n : Nat} (hn : 1 ≤ n) (hn2 : n ≤ 4096) : allR 1 4096 (winTo kind n n) = true := by
  apply allR_of
  intro x hx
  obtain ⟨i, hi, rfl⟩ := List.mem_map.1 hx
  have hi' := List.mem_range.1 hi
  exact ⟨wt_ge (by omega) (by omega) (by omega) (by omega), (winAt_bd (by omega) (by omega)).2⟩
theorem winTo_get {kind n : Int} {m i : Nat} (h : i < m) : (winTo kind n m)[i]?.getD 0 = winAt kind n i := by simp [winTo, h]
end Ear
