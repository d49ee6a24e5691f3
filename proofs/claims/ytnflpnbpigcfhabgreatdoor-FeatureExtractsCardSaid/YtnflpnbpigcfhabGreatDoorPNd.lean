/- Plain facts: natural numbers in digits of 32 bits, without leading zeros -/
import Derived.Test.YtnflpnbpigcfhabGreatDoorMb
namespace Ear

/-- the digits of a number -/
def nd (n : Nat) : List Int := if h : n = 0 then [] else ((n % 4294967296 : Nat) : Int) :: nd (n / 4294967296)
termination_by n
decreasing_by omega
theorem nd_zero : nd 0 = [] := by rw [nd]; simp
theorem nd_pos {n : Nat} (h : n ≠ 0) : nd n = ((n % 4294967296 : Nat) : Int) :: nd (n / 4294967296) := by rw [nd]; simp [h]
theorem vl_nd (n : Nat) : vl (nd n) = n := by
  induction n using Nat.strongRecOn with
  | ind n ih =>
    by_cases h : n = 0
    · subst h; rw [nd_zero]; rfl
    · rw [nd_pos h, vl, ih _ (by omega)]; simp only [BB]; omega
theorem dgs_nd (n : Nat) : dgs (nd n) := by
  induction n using Nat.strongRecOn with
  | ind n ih =>
    by_cases h : n = 0
    · subst h; rw [nd_zero]; intro x hx; simp at hx
    · rw [nd_pos h]
      intro x hx
      rcases List.mem_cons.1 hx with rfl | hx
      · omega
      · exact ih _ (by omega) x hx
/-- no leading zero -/
def cn (l : List Int) : Prop := l[l.length - 1]?.getD 1 ≠ 0
theorem cn_nil : cn [] := by unfold cn; simp
theorem cn_tail {d : Int} {l : List Int} (h : cn (d :: l)) : cn l := by
  unfold cn at *
  cases l with
  | nil => simp
  | cons e l => simpa using h
theorem vl_nonneg {l : List Int} (h : dgs l) : 0 ≤ vl l := (vl_bd h).1
theorem dgs_tail {d : Int} {l : List Int} (h : dgs (d :: l)) : dgs l := fun x hx => h x (List.mem_cons_of_mem _ hx)
theorem nd_of {l : List Int} (hd : dgs l) (hc : cn l) : l = nd (vl l).toNat := by
  induction l with
  | nil => simp [vl, nd_zero]
  | cons d l ih =>
    have h0 := hd d (List.mem_cons_self ..)
    have i := ih (dgs_tail hd) (cn_tail hc)
    have hv := vl_nonneg (dgs_tail hd)
    have hne : (vl (d :: l)).toNat ≠ 0 := by
      cases l with
      | nil =>
        have : d ≠ 0 := by unfold cn at hc; simpa using hc
        simp [vl]; omega
      | cons e l =>
        have : (vl (e :: l)).toNat ≠ 0 := by
          intro h
          rw [h, nd_zero] at i
          cases i
        rw [vl]; simp only [BB]; omega
    rw [nd_pos hne]
    have e1 : (vl (d :: l)).toNat % 4294967296 = d.toNat := by rw [vl]; simp only [BB]; omega
    have e2 : (vl (d :: l)).toNat / 4294967296 = (vl l).toNat := by rw [vl]; simp only [BB]; omega
    rw [e1, e2, ← i]
    congr 1; omega
theorem cn_nd (n : Nat) : cn (nd n) := by
  induction n using Nat.strongRecOn with
  | ind n ih =>
    by_cases h : n = 0
    · subst h; rw [nd_zero]; exact cn_nil
    · have i := ih (n / 4294967296) (by omega)
      rw [nd_pos h]
      by_cases h2 : n / 4294967296 = 0
      · rw [h2, nd_zero]; unfold cn; simp; omega
      · unfold cn at *
        rw [nd_pos h2] at *
        simpa using i
theorem cn_take {l : List Int} {k : Nat} (h : k = 0 ∨ l[k - 1]?.getD 0 ≠ 0) : cn (l.take k) := by
  rcases h with rfl | h
  · simp; exact cn_nil
  · have hk : k - 1 < l.length := by
      rcases Nat.lt_or_ge (k - 1) l.length with h1 | h1
      · exact h1
      · rw [List.getElem?_eq_none h1] at h; exact absurd rfl h
    by_cases h0 : k = 0
    · subst h0; simp; exact cn_nil
    · unfold cn
      rw [List.length_take, Nat.min_eq_left (by omega), List.getElem?_take_of_lt (by omega)]
      rw [List.getElem?_eq_getElem hk] at h ⊢
      exact h
theorem take_nd {l : List Int} {k : Nat} (hd : dgs l) (hz : zer l k) (h : k = 0 ∨ l[k - 1]?.getD 0 ≠ 0) : l.take k = nd (vl l).toNat := by
  rw [vl_zer hz]
  exact nd_of (dgs_take hd k) (cn_take h)
theorem nd_len_le {n k : Nat} (h : n < 4294967296 ^ k) : (nd n).length ≤ k := by
  induction k generalizing n with
  | zero =>
    have : n = 0 := by simpa using h
    rw [this, nd_zero]; simp
  | succ k ih =>
    by_cases h0 : n = 0
    · rw [h0, nd_zero]; simp
    · rw [nd_pos h0, List.length_cons]
      have := ih (n := n / 4294967296) (by rw [Nat.pow_succ] at h; exact Nat.div_lt_of_lt_mul (by rw [Nat.mul_comm]; exact h))
      omega
theorem BB_nat (k : Nat) : BB ^ k = ((4294967296 ^ k : Nat) : Int) := by simp [BB]
theorem nd_lt (n : Nat) : n < 4294967296 ^ (nd n).length := by
  have h := (vl_bd (dgs_nd n)).2
  rw [vl_nd, BB_nat] at h
  omega
theorem nd_ge {n : Nat} (h0 : n ≠ 0) : 4294967296 ^ ((nd n).length - 1) ≤ n := by
  rcases Nat.lt_or_ge n (4294967296 ^ ((nd n).length - 1)) with h | h
  · have h1 := nd_len_le h
    have : (nd n).length ≠ 0 := by rw [nd_pos h0]; simp
    omega
  · exact h
theorem nd_nil {n : Nat} : nd n = [] ↔ n = 0 := by
  constructor
  · intro h
    have := vl_nd n
    rw [h] at this
    simp [vl] at this; omega
  · rintro rfl; exact nd_zero
theorem nd_len_zero {n : Nat} : (nd n).length = 0 ↔ n = 0 := by rw [List.length_eq_zero_iff]; exact nd_nil
theorem nd_inj {n m : Nat} (h : nd n = nd m) : n = m := by
  have h1 := vl_nd n
  have h2 := vl_nd m
  rw [h] at h1
  omega
theorem nd_len_mono {n m : Nat} (h : n ≤ m) : (nd n).length ≤ (nd m).length := nd_len_le (Nat.lt_of_le_of_lt h (nd_lt m))
theorem nd_len_mul (n m : Nat) : (nd (n * m)).length ≤ (nd n).length + (nd m).length := by
  apply nd_len_le
  rw [Nat.pow_add]
  exact Nat.mul_lt_mul'' (nd_lt n) (nd_lt m)
theorem nd_len_add (n m k : Nat) (h1 : (nd n).length ≤ k) (h2 : (nd m).length ≤ k) : (nd (n + m)).length ≤ k + 1 := by
  apply nd_len_le
  have a := nd_lt n
  have b := nd_lt m
  have c := Nat.pow_le_pow_right (show 0 < 4294967296 by decide) h1
  have d := Nat.pow_le_pow_right (show 0 < 4294967296 by decide) h2
  rw [Nat.pow_succ]
  omega
theorem nd_len_lt {n m : Nat} (h : (nd n).length < (nd m).length) : n < m := by
  rcases Nat.lt_or_ge n m with h1 | h1
  · exact h1
  · have := nd_len_mono h1; omega
theorem nd_one : nd 1 = [1] := by rw [nd_pos (by decide)]; simp [nd_zero]
/-- where two numbers of as many digits part, from the top -/
theorem vl_top {a b : List Int} (ha : dgs a) (hb : dgs b) (hl : a.length = b.length) {i : Nat} (hi : i < a.length) (hd : a.drop (i + 1) = b.drop (i + 1)) (h : a[i]?.getD 0 < b[i]?.getD 0) : vl a < vl b := by
  have key : ∀ l : List Int, i < l.length → vl l = vl (l.take i) + BB ^ i * (l[i]?.getD 0 + BB * vl (l.drop (i + 1))) := by
    intro l hl
    conv => lhs; rw [← List.take_append_drop i l]
    rw [vl_append, List.length_take, Nat.min_eq_left (by omega), List.drop_eq_getElem_cons hl, vl, List.getElem?_eq_getElem hl]
    rfl
  rw [key a hi, key b (by omega), hd]
  have t1 := (vl_bd (dgs_take ha i)).2
  have t2 := (vl_bd (dgs_take hb i)).1
  have hlen : (a.take i).length = i := by simp; omega
  rw [hlen] at t1
  have m : BB ^ i * (a[i]?.getD 0 + 1 + BB * vl (b.drop (i + 1))) ≤ BB ^ i * (b[i]?.getD 0 + BB * vl (b.drop (i + 1))) := Int.mul_le_mul_of_nonneg_left (by omega) (Int.le_of_lt (BB_pos i))
  have e : BB ^ i * (a[i]?.getD 0 + 1 + BB * vl (b.drop (i + 1))) = BB ^ i * (a[i]?.getD 0 + BB * vl (b.drop (i + 1))) + BB ^ i := by
    rw [show a[i]?.getD 0 + 1 + BB * vl (b.drop (i + 1)) = (a[i]?.getD 0 + BB * vl (b.drop (i + 1))) + 1 by omega, Int.mul_add, Int.mul_one]
  omega
/-- how two numbers compare -/
def cmpN (n m : Nat) : Int := if n < m then -1 else if n = m then 0 else 1
theorem cmpN_lt {n m : Nat} (h : n < m) : cmpN n m = -1 := by simp [cmpN, h]
theorem cmpN_gt {n m : Nat} (h : m < n) : cmpN n m = 1 := by unfold cmpN; rw [if_neg (by omega), if_neg (by omega)]
theorem cmpN_eq {n m : Nat} (h : n = m) : cmpN n m = 0 := by unfold cmpN; rw [if_neg (by omega), if_pos h]
theorem drop_step {a b : List Int} {i : Nat} (hl : a.length = b.length) (h : a.drop (i + 1) = b.drop (i + 1)) (he : a[i]?.getD 0 = b[i]?.getD 0) : a.drop i = b.drop i := by
  by_cases hi : i < a.length
  · rw [List.drop_eq_getElem_cons hi, List.drop_eq_getElem_cons (show i < b.length by omega), h]
    rw [List.getElem?_eq_getElem hi, List.getElem?_eq_getElem (show i < b.length by omega)] at he
    simp at he
    rw [he]
  · rw [List.drop_eq_nil_of_le (by omega), List.drop_eq_nil_of_le (by omega)]
/-- a sum: some digits are done -/
structure PlusAt (a b out : List Int) (i : Nat) (c : Int) : Prop where
  len : out.length = i
  dig : dgs out
  c0 : 0 ≤ c
  c1 : c ≤ 1
  val : vl out + BB ^ i * c = vl (a.take i) + vl (b.take i)
theorem vl_take_step (l : List Int) (k : Nat) : vl (l.take (k + 1)) = vl (l.take k) + BB ^ k * l[k]?.getD 0 := by
  by_cases hk : k < l.length
  · exact vl_take_succ l k hk
  · rw [List.take_of_length_le (by omega), List.take_of_length_le (by omega), List.getElem?_eq_none (by omega)]; simp
theorem PlusAt.start (a b : List Int) : PlusAt a b [] 0 0 := ⟨rfl, fun x hx => by simp at hx, by omega, by omega, by simp [vl]⟩
theorem PlusAt.next {a b out : List Int} {i : Nat} {c : Int} (h : PlusAt a b out i c) (ha : dgs a) (hb : dgs b) {t : Int} (ht : t = c + a[i]?.getD 0 + b[i]?.getD 0) : PlusAt a b (out ++ [t % 4294967296]) (i + 1) (t / 4294967296) := by
  have h1 := dgs_at ha i
  have h2 := dgs_at hb i
  have h3 := h.c0
  have h4 := h.c1
  refine ⟨by simp [h.len], ?_, by omega, by omega, ?_⟩
  · intro x hx
    rcases List.mem_append.1 hx with hx | hx
    · exact h.dig x hx
    · simp at hx; omega
  · rw [vl_append, h.len, vl_take_step, vl_take_step]
    have hv := h.val
    simp only [vl, Int.mul_zero, Int.add_zero]
    have e1 : BB ^ (i + 1) * (t / 4294967296) = BB ^ i * (BB * (t / 4294967296)) := by rw [Int.pow_succ, Int.mul_assoc]
    have e2 : BB * (t / 4294967296) = t - t % 4294967296 := by simp only [BB]; omega
    rw [e1, e2, Int.mul_sub, ht, Int.mul_add, Int.mul_add]
    omega
theorem PlusAt.done {a b out : List Int} {i : Nat} (h : PlusAt a b out i 0) (ha : a.length ≤ i) (hb : b.length ≤ i) : vl out = vl a + vl b := by
  have := h.val
  rw [List.take_of_length_le ha, List.take_of_length_le hb] at this
  simpa using this
/-- a difference: some digits are done -/
structure MinusAt (a b out : List Int) (i : Nat) (c : Int) : Prop where
  len : out.length = i
  dig : dgs out
  c0 : 0 ≤ c
  c1 : c ≤ 1
  val : vl out - BB ^ i * c = vl (a.take i) - vl (b.take i)
theorem MinusAt.start (a b : List Int) : MinusAt a b [] 0 0 := ⟨rfl, fun x hx => by simp at hx, by omega, by omega, by simp [vl]⟩
theorem MinusAt.next {a b out : List Int} {i : Nat} {c d t : Int} (h : MinusAt a b out i c) (hd0 : 0 ≤ d) (hd1 : d ≤ 1) (ht : t = a[i]?.getD 0 - (c + b[i]?.getD 0) + 4294967296 * d) (h0 : 0 ≤ t) (h1 : t ≤ 4294967295) : MinusAt a b (out ++ [t]) (i + 1) d := by
  refine ⟨by simp [h.len], ?_, hd0, hd1, ?_⟩
  · intro x hx
    rcases List.mem_append.1 hx with hx | hx
    · exact h.dig x hx
    · simp at hx; omega
  · rw [vl_append, h.len, vl_take_step, vl_take_step]
    have hv := h.val
    simp only [vl, Int.mul_zero, Int.add_zero]
    have e1 : BB ^ (i + 1) * d = BB ^ i * (4294967296 * d) := by rw [Int.pow_succ, Int.mul_assoc]
    rw [e1, ht, Int.mul_add, Int.mul_sub, Int.mul_add]
    omega
theorem MinusAt.done {a b out : List Int} {c : Int} (h : MinusAt a b out a.length c) (hl : b.length ≤ a.length) (hle : vl b ≤ vl a) : vl out = vl a - vl b := by
  have hv := h.val
  rw [List.take_of_length_le (Nat.le_refl _), List.take_of_length_le hl] at hv
  have bd := (vl_bd h.dig).2
  rw [h.len] at bd
  have h3 := h.c0
  have h4 := h.c1
  rcases (show c = 0 ∨ c = 1 by omega) with rfl | rfl
  · simpa using hv
  · exfalso
    rw [Int.mul_one] at hv
    omega
/-- a product: inside a row -/
structure MulIn (a b out : List Int) (i j : Nat) (c : Int) : Prop where
  len : out.length = a.length + b.length
  dig : dgs out
  zer : zer out (i + b.length)
  c0 : 0 ≤ c
  c1 : c ≤ 4294967295
  val : vl out + BB ^ (i + j) * c = vl (a.take i) * vl b + BB ^ i * (a[i]?.getD 0 * vl (b.take j))
structure MulOut (a b out : List Int) (i : Nat) : Prop where
  len : out.length = a.length + b.length
  dig : dgs out
  zer : zer out (i + b.length)
  val : vl out = vl (a.take i) * vl b
theorem zer_replicate (n k : Nat) : zer (List.replicate n 0) k := by
  intro q _
  by_cases hq : q < n
  · rw [List.getElem?_eq_getElem (by simpa using hq)]; simp
  · rw [List.getElem?_eq_none (by simpa using Nat.le_of_not_lt hq)]; rfl
theorem MulOut.start (a b : List Int) : MulOut a b (List.replicate (a.length + b.length) 0) 0 :=
  ⟨by simp, dgs_replicate _, zer_replicate _ _, by rw [vl_replicate]; simp [vl]⟩
theorem MulOut.enter {a b out : List Int} {i : Nat} (h : MulOut a b out i) : MulIn a b out i 0 0 :=
  ⟨h.len, h.dig, h.zer, by omega, by omega, by rw [h.val]; simp [vl]⟩
theorem MulIn.next {a b out : List Int} {i j : Nat} {c : Int} (h : MulIn a b out i j c) (ha : dgs a) (hb : dgs b) (hi : i < a.length) (hj : j < b.length) {t : Int} (ht : t = c + (out[i + j]?.getD 0 + a[i]?.getD 0 * b[j]?.getD 0)) :
    MulIn a b (out.set (i + j) (t % 4294967296)) i (j + 1) (t / 4294967296) := by
  have hx := dgs_at ha i
  have hy := dgs_at hb j
  have hp := sq_prod hx hy
  have ho := dgs_at h.dig (i + j)
  have h0 := h.c0
  have h1 := h.c1
  refine ⟨by simp [h.len], dgs_set h.dig _ (by omega) (by omega), ?_, by omega, by omega, ?_⟩
  · intro q hq
    rw [List.getElem?_set_ne (by omega)]
    exact h.zer q hq
  · rw [vl_set _ _ _ (by rw [h.len]; omega), vl_take_succ b j hj]
    have hv := h.val
    have e1 : BB ^ (i + (j + 1)) * (t / 4294967296) = BB ^ (i + j) * (BB * (t / 4294967296)) := by
      rw [← Nat.add_assoc, Int.pow_succ, Int.mul_assoc]
    have e2 : BB * (t / 4294967296) = t - t % 4294967296 := by simp only [BB]; omega
    have e3 : BB ^ i * (a[i]?.getD 0 * (vl (b.take j) + BB ^ j * b[j]?.getD 0)) = BB ^ i * (a[i]?.getD 0 * vl (b.take j)) + BB ^ (i + j) * (a[i]?.getD 0 * b[j]?.getD 0) := by
      rw [Int.mul_add, Int.mul_add, Int.pow_add]
      congr 1
      rw [Int.mul_assoc, ← Int.mul_assoc (a[i]?.getD 0), Int.mul_comm (a[i]?.getD 0) (BB ^ j), Int.mul_assoc]
    rw [e1, e2, e3]
    have e4 : BB ^ (i + j) * (t % 4294967296 - out[i + j]?.getD 0) + BB ^ (i + j) * (t - t % 4294967296) = BB ^ (i + j) * c + BB ^ (i + j) * (a[i]?.getD 0 * b[j]?.getD 0) := by
      rw [← Int.mul_add, ← Int.mul_add]
      congr 1
      omega
    omega
theorem MulIn.leave {a b out : List Int} {i : Nat} {c : Int} (h : MulIn a b out i b.length c) (hi : i < a.length) : MulOut a b (out.set (i + b.length) c) (i + 1) := by
  refine ⟨by simp [h.len], dgs_set h.dig _ h.c0 h.c1, ?_, ?_⟩
  · intro q hq
    rw [List.getElem?_set_ne (by omega)]
    exact h.zer q (by omega)
  · have hv := h.val
    rw [List.take_length] at hv
    rw [vl_set _ _ _ (by rw [h.len]; omega), h.zer _ (Nat.le_refl _), vl_take_succ a i hi, Int.sub_zero, hv, Int.add_mul, Int.mul_assoc]
theorem MulOut.done {a b out : List Int} (h : MulOut a b out a.length) : vl out = vl a * vl b := by
  rw [h.val, List.take_length]
end Ear
