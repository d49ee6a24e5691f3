/- Plain: a recording at another rate. -/
import Derived.Test.YtnflpnbpigcfhaaPWave
namespace Ear
/-- the sample at i; behind the last one, the last one -/
def clamp (l : List Int) (i : Nat) : Int := l[min i (l.length - 1)]?.getD 0
/-- the sum of k samples from i on -/
def ssum (l : List Int) (i : Nat) : Nat → Int
  | 0 => 0
  | k + 1 => ssum l i k + clamp l (i + k)
/-- a smoothed sample -/
def smo (l : List Int) (i w : Nat) : Int := rnd (ssum l i w) w
theorem clamp_bd {l : List Int} (h : smp l = true) (hl : 0 < l.length) (i : Nat) : -32768 ≤ clamp l i ∧ clamp l i ≤ 32767 := by
  unfold clamp
  have hk : min i (l.length - 1) < l.length := by omega
  rw [List.getElem?_eq_getElem hk]
  exact allR_get h hk
theorem ssum_bd {l : List Int} (h : smp l = true) (hl : 0 < l.length) (i : Nat) : ∀ k : Nat, -32768 * (k : Int) ≤ ssum l i k ∧ ssum l i k ≤ 32767 * k := by
  intro k
  induction k with
  | zero => simp [ssum]
  | succ k ih =>
    have := clamp_bd h hl (i + k)
    simp only [ssum]
    omega
theorem rnd_mul_le {a b : Int} {q : Int} (hb : 1 ≤ b) (hq : 0 ≤ q) (h : a ≤ q * b) : rnd a b ≤ q := by
  by_cases ha : 0 ≤ a
  · refine rnd_le ha hb ?_
    have : 2 * b * (q + 1) = 2 * (q * b) + 2 * b := by rw [Int.mul_add, Int.mul_assoc, Int.mul_comm b q]; omega
    omega
  · have := (rnd_bd (a := a) hb).2 (by omega)
    omega
theorem le_rnd_mul {a b : Int} {q : Int} (hb : 1 ≤ b) (hq : q ≤ 0) (h : q * b ≤ a) : q ≤ rnd a b := by
  by_cases ha : 0 ≤ a
  · have := rnd_nonneg ha hb
    omega
  · rw [rnd_of_neg (by omega)]
    have := rnd_mul_le (a := -a) (b := b) (q := -q) hb (by omega) (by rw [Int.neg_mul]; omega)
    omega
theorem smo_bd {l : List Int} (h : smp l = true) (hl : 0 < l.length) (i w : Nat) (hw : 1 ≤ w) : -32768 ≤ smo l i w ∧ smo l i w ≤ 32767 := by
  have := ssum_bd h hl i w
  unfold smo
  exact ⟨le_rnd_mul (by omega) (by omega) (by omega), rnd_mul_le (by omega) (by omega) (by omega)⟩
/-- one new sample -/
def rsmAt (l : List Int) (u d j : Nat) : Int :=
  rnd (smo l (j * d / u) ((d + u - 1) / u) * ((u : Int) - (j * d % u : Nat)) + smo l (j * d / u + 1) ((d + u - 1) / u) * (j * d % u : Nat)) u
/-- all new samples -/
def rsm (l : List Int) (u d : Nat) : List Int := (List.range ((l.length * u + d - 1) / d)).map (rsmAt l u d)
/-- what is wrong with a change of rate -/
def reschk (rate : Int) (l : List Int) (u d : Int) : Int :=
  if chk rate l ≠ 0 then chk rate l
  else if 1 ≤ u ∧ u ≤ 16 ∧ 1 ≤ d ∧ d ≤ 16 ∧ rate * u % d = 0 ∧ 1 ≤ rate * u / d ∧ rate * u / d ≤ 192000 then
    (if 200000 < (l.length * u + d - 1) / d then 5 else 0)
  else 2
end Ear
