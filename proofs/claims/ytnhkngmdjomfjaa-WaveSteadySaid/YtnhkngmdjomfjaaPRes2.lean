/- Plain: a change of rate as a whole answer; a steady recording stays steady. -/
import Derived.Test.YtnhkngmdjomfjaaPWinLaw
namespace Ear
/-- rate, error and samples of a change of rate -/
def resR (rate : Int) (l : List Int) (u d : Int) : Int × Int × List Int :=
  if reschk rate l u d = 0 then (rate * u / d, 0, rsm l u.toNat d.toNat) else (0, reschk rate l u d, [])
theorem rsm_length (l : List Int) (u d : Nat) : (rsm l u d).length = (l.length * u + d - 1) / d := by simp [rsm]
theorem mul_facts {rate u : Int} (h1 : 1 ≤ rate) (h2 : rate ≤ 192000) : (0 ≤ rate * u ∨ u < 1) ∧ (rate * u ≤ 3072000 ∨ 16 < u) := by
  constructor
  · by_cases h : u < 1
    · exact .inr h
    · exact .inl (Int.mul_nonneg (by omega) (by omega))
  · by_cases h : 16 < u
    · exact .inr h
    · refine .inl ?_
      by_cases hu : 0 ≤ u
      · have : rate * u ≤ 192000 * 16 := Int.mul_le_mul h2 (by omega) hu (by omega)
        omega
      · have : rate * u ≤ rate * 0 := Int.mul_le_mul_of_nonneg_left (by omega) (by omega)
        omega
/-- what makes a change of rate right -/
def ResOk (rate : Int) (u d : Int) : Prop := 1 ≤ u ∧ u ≤ 16 ∧ 1 ≤ d ∧ d ≤ 16 ∧ rate * u % d = 0 ∧ 1 ≤ rate * u / d ∧ rate * u / d ≤ 192000
theorem reschk_ok {rate : Int} {l : List Int} {u d : Int} : reschk rate l u d = 0 ↔ chk rate l = 0 ∧ ResOk rate u d ∧ (l.length * u + d - 1) / d ≤ 200000 := by
  unfold reschk ResOk
  split
  · rename_i h; constructor
    · intro h2; exact absurd h2 h
    · intro h2; exact absurd h2.1 h
  · rename_i h
    have h0 : chk rate l = 0 := Decidable.byContradiction h
    split
    · rename_i h2
      split <;> rename_i h3
      · constructor
        · intro h4; omega
        · intro h4; omega
      · exact ⟨fun _ => ⟨h0, h2, by omega⟩, fun _ => rfl⟩
    · rename_i h2
      exact ⟨fun h4 => by omega, fun h4 => absurd h4.2.1 h2⟩
theorem bad_cases {u d x y : Int} (h : ¬ (1 ≤ u ∧ u ≤ 16 ∧ 1 ≤ d ∧ d ≤ 16 ∧ x = 0 ∧ 1 ≤ y ∧ y ≤ 192000)) :
    u < 1 ∨ 16 < u ∨ (1 ≤ u ∧ u ≤ 16 ∧ d < 1) ∨ (1 ≤ u ∧ u ≤ 16 ∧ 16 < d) ∨ (1 ≤ u ∧ u ≤ 16 ∧ 1 ≤ d ∧ d ≤ 16 ∧ (x != 0) = true) ∨ (1 ≤ u ∧ u ≤ 16 ∧ 1 ≤ d ∧ d ≤ 16 ∧ (x != 0) = false ∧ y < 1) ∨ (1 ≤ u ∧ u ≤ 16 ∧ 1 ≤ d ∧ d ≤ 16 ∧ (x != 0) = false ∧ 192000 < y) := by
  by_cases a1 : u < 1
  · exact .inl a1
  by_cases a2 : 16 < u
  · exact .inr (.inl a2)
  by_cases a3 : d < 1
  · exact .inr (.inr (.inl ⟨by omega, by omega, a3⟩))
  by_cases a4 : 16 < d
  · exact .inr (.inr (.inr (.inl ⟨by omega, by omega, a4⟩)))
  by_cases hx : x = 0
  · by_cases hy : y < 1
    · exact .inr (.inr (.inr (.inr (.inr (.inl ⟨by omega, by omega, by omega, by omega, by simp [hx], hy⟩)))))
    · exact .inr (.inr (.inr (.inr (.inr (.inr ⟨by omega, by omega, by omega, by omega, by simp [hx], by omega⟩)))))
  · exact .inr (.inr (.inr (.inr (.inl ⟨by omega, by omega, by omega, by omega, by simp [hx]⟩))))
/-- the numbers that the walk wants -/
theorem res_nums {l : List Int} {u d : Nat} (h1 : 1 ≤ u) (h2 : u ≤ 16) (h3 : 1 ≤ d) (h4 : d ≤ 16) (hl : l.length ≤ 200000) :
    (l.length : Int) * u ≤ 3200000 ∧ 0 ≤ (l.length : Int) * u ∧ ((l.length : Int) * u + d - 1) / d = ((l.length * u + d - 1) / d : Nat) ∧ ((d : Int) + u - 1) / u = ((d + u - 1) / u : Nat) ∧
    1 ≤ (d + u - 1) / u ∧ (d + u - 1) / u ≤ 16 ∧ ((l.length * u + d - 1) / d ≠ 0 → 0 < l.length) := by
  have a1 : (l.length : Int) * u ≤ 200000 * 16 := Int.mul_le_mul (by omega) (by omega) (by omega) (by omega)
  have a2 : 0 ≤ (l.length : Int) * u := Int.mul_nonneg (by omega) (by omega)
  have e : ((l.length * u : Nat) : Int) = (l.length : Int) * u := Int.natCast_mul ..
  refine ⟨by omega, a2, ?_, ?_, ?_, ?_, ?_⟩
  · rw [Int.natCast_ediv]; congr 1; omega
  · rw [Int.natCast_ediv]; congr 1; omega
  · exact (Nat.le_div_iff_mul_le (by omega)).2 (by omega)
  · exact Nat.div_le_of_le_mul (by omega)
  · intro h
    rcases Nat.eq_zero_or_pos l.length with h0 | h0
    · rw [h0, Nat.zero_mul, Nat.zero_add] at h
      exact absurd (Nat.div_eq_of_lt (by omega)) h
    · exact h0
theorem resR_len (rate : Int) (l : List Int) (u d : Int) : (resR rate l u d).2.2.length ≤ 200000 := by
  unfold resR
  split
  · rename_i h
    obtain ⟨h1, h2, h3⟩ := reschk_ok.1 h
    obtain ⟨u1, u2, d1, d2, _⟩ := h2
    obtain ⟨u, rfl⟩ := Int.eq_ofNat_of_zero_le (show 0 ≤ u by omega)
    obtain ⟨d, rfl⟩ := Int.eq_ofNat_of_zero_le (show 0 ≤ d by omega)
    have := res_nums (l := l) (u := u) (d := d) (by omega) (by omega) (by omega) (by omega) (chk_ok.1 h1).1
    simp only [rsm_length, Int.toNat_natCast]
    omega
  · simp
theorem rnd_le_any {a b q : Int} (hb : 1 ≤ b) (h : a ≤ q * b) : rnd a b ≤ q := by
  by_cases hq : 0 ≤ q
  · exact rnd_mul_le hb hq h
  · have h0 : q * b ≤ (-1) * b := Int.mul_le_mul_of_nonneg_right (by omega) (by omega)
    rw [rnd_of_neg (by omega)]
    have := le_rnd (a := -a) (b := b) (q := -q) (by omega) hb (by
      have : 2 * b * -q = -(2 * (q * b)) := by rw [Int.mul_neg, Int.mul_assoc, Int.mul_comm b q]
      omega)
    omega
theorem le_rnd_any {a b q : Int} (hb : 1 ≤ b) (h : q * b ≤ a) : q ≤ rnd a b := by
  by_cases hq : q ≤ 0
  · exact le_rnd_mul hb hq h
  · have h0 : 1 * b ≤ q * b := Int.mul_le_mul_of_nonneg_right (by omega) (by omega)
    exact le_rnd (by omega) hb (by rw [Int.mul_assoc, Int.mul_comm b q]; omega)
theorem rnd_exact {q b : Int} (hb : 1 ≤ b) : rnd (q * b) b = q :=
  Int.le_antisymm (rnd_le_any hb (Int.le_refl _)) (le_rnd_any hb (Int.le_refl _))
/-- the least of the first and of the first k -/
def lowTo (l : List Int) : Nat → Int
  | 0 => l[0]?.getD 0
  | k + 1 => min (lowTo l k) (l[k]?.getD 0)
def highTo (l : List Int) : Nat → Int
  | 0 => l[0]?.getD 0
  | k + 1 => max (highTo l k) (l[k]?.getD 0)
theorem low_high (l : List Int) (k : Nat) : ∀ j, j < k → lowTo l k ≤ l[j]?.getD 0 ∧ l[j]?.getD 0 ≤ highTo l k := by
  induction k with
  | zero => intro j h; omega
  | succ k ih =>
    intro j h
    simp only [lowTo, highTo]
    by_cases hj : j = k
    · subst hj; omega
    · have := ih j (by omega); omega
theorem lh_bd {l : List Int} (h : smp l = true) (hl : 0 < l.length) (k : Nat) (hk : k ≤ l.length) : (-32768 ≤ lowTo l k ∧ lowTo l k ≤ 32767) ∧ (-32768 ≤ highTo l k ∧ highTo l k ≤ 32767) := by
  induction k with
  | zero =>
    have := allR_get h hl
    simp only [lowTo, highTo, List.getElem?_eq_getElem hl, Option.getD_some]
    omega
  | succ k ih =>
    have h1 := ih (by omega)
    have := allR_get h (show k < l.length by omega)
    simp only [lowTo, highTo, List.getElem?_eq_getElem (show k < l.length by omega), Option.getD_some]
    omega
theorem clamp_in {l : List Int} (hl : 0 < l.length) (i : Nat) : lowTo l l.length ≤ clamp l i ∧ clamp l i ≤ highTo l l.length :=
  low_high l l.length _ (by omega)
theorem ssum_in {l : List Int} (hl : 0 < l.length) (i : Nat) : ∀ k : Nat, lowTo l l.length * (k : Int) ≤ ssum l i k ∧ ssum l i k ≤ highTo l l.length * k := by
  intro k
  induction k with
  | zero => simp [ssum]
  | succ k ih =>
    have := clamp_in hl (i + k)
    simp only [ssum]
    rw [Int.natCast_add, Int.mul_add, Int.mul_add]
    omega
theorem smo_in {l : List Int} (hl : 0 < l.length) (i w : Nat) (hw : 1 ≤ w) : lowTo l l.length ≤ smo l i w ∧ smo l i w ≤ highTo l l.length := by
  have := ssum_in hl i w
  exact ⟨le_rnd_any (by omega) this.1, rnd_le_any (by omega) this.2⟩
theorem rsmAt_in {l : List Int} (hl : 0 < l.length) {u d : Nat} (hu : 1 ≤ u) (hd : 1 ≤ d) (j : Nat) : lowTo l l.length ≤ rsmAt l u d j ∧ rsmAt l u d j ≤ highTo l l.length := by
  have hw : 1 ≤ (d + u - 1) / u := (Nat.le_div_iff_mul_le (by omega)).2 (by omega)
  have h1 := smo_in hl (j * d / u) _ hw
  have h2 := smo_in hl (j * d / u + 1) _ hw
  have hf : j * d % u < u := Nat.mod_lt _ (by omega)
  unfold rsmAt
  generalize smo l (j * d / u) ((d + u - 1) / u) = x at *
  generalize smo l (j * d / u + 1) ((d + u - 1) / u) = y at *
  generalize j * d % u = f at *
  generalize lowTo l l.length = lo at *
  generalize highTo l l.length = hi at *
  have e1 : ∀ q : Int, q * (u : Int) = q * ((u : Int) - f) + q * (f : Int) := fun q => by rw [← Int.mul_add]; congr 1; omega
  constructor
  · refine le_rnd_any (by omega) ?_
    rw [e1]
    have a := Int.mul_le_mul_of_nonneg_right h1.1 (show 0 ≤ (u : Int) - f by omega)
    have b := Int.mul_le_mul_of_nonneg_right h2.1 (show 0 ≤ (f : Int) by omega)
    omega
  · refine rnd_le_any (by omega) ?_
    rw [e1]
    have a := Int.mul_le_mul_of_nonneg_right h1.2 (show 0 ≤ (u : Int) - f by omega)
    have b := Int.mul_le_mul_of_nonneg_right h2.2 (show 0 ≤ (f : Int) by omega)
    omega
theorem rsm_all {l : List Int} (hl : 0 < l.length) {u d : Nat} (hu : 1 ≤ u) (hd : 1 ≤ d) : allR (lowTo l l.length) (highTo l l.length) (rsm l u d) = true := by
  apply allR_of
  intro x hx
  obtain ⟨j, _, rfl⟩ := List.mem_map.1 hx
  exact rsmAt_in hl hu hd j
theorem rsm_same (l : List Int) {u : Nat} (hu : 1 ≤ u) : rsm l u u = l := by
  have hw : (u + u - 1) / u = 1 := by
    apply Nat.div_eq_of_lt_le <;> omega
  have hm : (l.length * u + u - 1) / u = l.length := by
    apply Nat.div_eq_of_lt_le
    · omega
    · rw [Nat.succ_mul]; omega
  apply List.ext_getElem
  · rw [rsm_length, hm]
  · intro j h1 h2
    simp only [rsm, List.getElem_map, List.getElem_range]
    unfold rsmAt
    rw [hw, Nat.mul_div_cancel _ (by omega), Nat.mul_mod_left]
    simp only [Int.natCast_zero, Int.mul_zero, Int.add_zero, Int.sub_zero]
    rw [rnd_exact (by omega)]
    unfold smo
    simp only [ssum, Int.zero_add, Nat.add_zero]
    have : clamp l j = l[j] := by unfold clamp; rw [Nat.min_eq_left (by omega)]; simp [List.getElem?_eq_getElem h2]
    rw [this]
    have := rnd_exact (q := l[j]) (b := 1) (by omega)
    rw [Int.mul_one] at this
    exact this
theorem rsm_empty {l : List Int} {u d : Nat} (hu : 1 ≤ u) (hd : 1 ≤ d) : (rsm l u d).length = 0 ↔ l.length = 0 := by
  rw [rsm_length]
  constructor
  · intro h
    rcases Nat.eq_zero_or_pos l.length with h0 | h0
    · exact h0
    · have : 1 * 1 ≤ l.length * u := Nat.mul_le_mul h0 hu
      have : 1 ≤ (l.length * u + d - 1) / d := (Nat.le_div_iff_mul_le (by omega)).2 (by omega)
      omega
  · intro h
    rw [h, Nat.zero_mul, Nat.zero_add]
    exact Nat.div_eq_of_lt (by omega)
theorem rate_back {rate u d : Int} (h : rate * u % d = 0) : rate * u / d * d = rate * u := Int.ediv_mul_cancel (Int.dvd_of_emod_eq_zero h)
end Ear
