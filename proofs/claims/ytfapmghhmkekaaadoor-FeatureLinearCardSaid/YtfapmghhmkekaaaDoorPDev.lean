/- Plain facts: the rows of cosines are near enough to a basis -/
import Derived.Test.YtfapmghhmkekaaaDoorPRet
namespace Ear

/-- a row of cosines, without the first -/
def crow (n i : Nat) : List Int := (List.range (n - 1)).map fun k => cosC ((2 * i + 1) * (k + 1) * 64 / n)
def dotL : List Int → List Int → Int
  | a :: x, b :: y => a * b + dotL x y
  | _, _ => 0
theorem dotL_take (a b : List Int) : ∀ m, dotL (a.take m) (b.take m) = sumN (fun k => a[k]?.getD 0 * b[k]?.getD 0) m := by
  intro m
  induction a generalizing b m with
  | nil => simp only [List.take_nil, dotL, List.getElem?_nil, Option.getD_none, Int.zero_mul]; exact (sumN_zero fun _ _ => rfl).symm
  | cons x a ih =>
    cases b with
    | nil =>
      have : dotL ((x :: a).take m) (([] : List Int).take m) = 0 := by rw [List.take_nil]; cases (x :: a).take m <;> rfl
      rw [this]
      exact (sumN_zero fun _ _ => by simp).symm
    | cons y b =>
      cases m with
      | zero => rfl
      | succ m =>
        rw [sumN_head]
        simp only [List.take_succ_cons, dotL, ih b m, List.getElem?_cons_zero, Option.getD_some, List.getElem?_cons_succ]
theorem crow_get {n i k : Nat} (hk : k < n - 1) : (crow n i)[k]?.getD 0 = cosC ((2 * i + 1) * (k + 1) * 64 / n) := by
  rw [List.getElem?_eq_getElem (by simpa [crow] using hk)]; simp [crow]
theorem kS_dot (n i j : Nat) : kS n i j (n - 1) = 268435456 + 2 * dotL (crow n i) (crow n j) := by
  have h1 : ∀ m, m ≤ n - 1 → kS n i j m = 268435456 + 2 * sumN (fun k => (crow n i)[k]?.getD 0 * (crow n j)[k]?.getD 0) m := by
    intro m
    induction m with
    | zero => intro _; rfl
    | succ m ih =>
      intro hm
      simp only [kS, sumN]
      rw [ih (by omega), crow_get (by omega), crow_get (by omega)]
      generalize cosC ((2 * i + 1) * (m + 1) * 64 / n) * cosC ((2 * j + 1) * (m + 1) * 64 / n) = z
      omega
  have h2 := dotL_take (crow n i) (crow n j) (n - 1)
  rw [List.take_of_length_le (by simp [crow]), List.take_of_length_le (by simp [crow])] at h2
  rw [h1 (n - 1) (Nat.le_refl _), h2]
/-- the distance of a row from the basis: over the rows given -/
def devL (n i : Nat) (r : List Int) : Nat → List (List Int) → Nat
  | _, [] => 0
  | j, s :: l => (268435456 + 2 * dotL r s - (if i = j then (n : Int) * 268435456 else 0)).natAbs + devL n i r (j + 1) l
theorem devL_sum (n i : Nat) : ∀ (m j : Nat), devL n i (crow n i) j ((List.range m).map fun q => crow n (j + q)) + (devS n i j).toNat = (devS n i (j + m)).toNat := by
  intro m
  induction m with
  | zero => intro j; simp [devL]
  | succ m ih =>
    intro j
    rw [List.range_succ_eq_map, List.map_cons, List.map_map]
    simp only [devL]
    have e : (List.range m).map ((fun q => crow n (j + q)) ∘ Nat.succ) = (List.range m).map fun q => crow n (j + 1 + q) := by
      apply List.map_congr_left
      intro q _
      simp only [Function.comp_apply]
      rw [show j + Nat.succ q = j + 1 + q by omega]
    rw [e]
    have h1 := ih (j + 1)
    have h2 : (devS n i (j + 1)).toNat = (devS n i j).toNat + (268435456 + 2 * dotL (crow n i) (crow n (j + 0)) - (if i = j then (n : Int) * 268435456 else 0)).natAbs := by
      have h0 : 0 ≤ devS n i j := by
        clear h1 e ih
        induction j with
        | zero => exact Int.le_refl _
        | succ j ih => simp only [devS]; omega
      simp only [devS, Nat.add_zero]
      rw [kS_dot]
      omega
    rw [show j + (m + 1) = j + 1 + m by omega, ← h1, h2]
    omega
def devAll (n : Nat) (rows : List (List Int)) : Nat → List (List Int) → Bool
  | _, [] => true
  | i, r :: l => decide (devL n i r 0 rows ≤ 32768 * (n * n)) && devAll n rows (i + 1) l
theorem devAll_ok (n : Nat) (rows : List (List Int)) (hr : rows = (List.range n).map (crow n)) (h : devAll n rows 0 rows = true) : devOk n := by
  have key : ∀ (l : List (List Int)) (i : Nat), devAll n rows i l = true → ∀ q, q < l.length → l[q]? = some (crow n (i + q)) → devL n (i + q) (crow n (i + q)) 0 rows ≤ 32768 * (n * n) := by
    intro l
    induction l with
    | nil => intro i _ q hq; simp at hq
    | cons r l ih =>
      intro i h q hq he
      simp only [devAll, Bool.and_eq_true, decide_eq_true_eq] at h
      cases q with
      | zero =>
        simp at he
        subst he
        exact h.1
      | succ q =>
        have := ih (i + 1) h.2 q (by simpa using hq) (by simpa [show i + (q + 1) = i + 1 + q by omega] using he)
        rwa [show i + 1 + q = i + (q + 1) by omega] at this
  intro i hi
  have h1 := key rows 0 h i (by rw [hr]; simpa using hi) (by rw [hr]; simp [hi])
  rw [Nat.zero_add] at h1
  have h2 := devL_sum n i n 0
  rw [show (fun q => crow n (0 + q)) = crow n from by funext q; rw [Nat.zero_add], Nat.zero_add] at h2
  rw [hr] at h1
  have h3 : devS n i 0 = 0 := rfl
  rw [h3] at h2
  have : (devS n i n).toNat ≤ 32768 * (n * n) := by omega
  omega
theorem dev1 : devOk 1 := devAll_ok 1 _ rfl (by decide +kernel)
theorem dev2 : devOk 2 := devAll_ok 2 _ rfl (by decide +kernel)
theorem dev4 : devOk 4 := devAll_ok 4 _ rfl (by decide +kernel)
theorem dev8 : devOk 8 := devAll_ok 8 _ rfl (by decide +kernel)
theorem dev16 : devOk 16 := devAll_ok 16 _ rfl (by decide +kernel)
theorem dev32 : devOk 32 := devAll_ok 32 _ rfl (by decide +kernel)
theorem dev64 : devOk 64 := devAll_ok 64 _ rfl (by decide +kernel)
theorem dev_all {n : Nat} (h : lenOk n = true) : devOk n := by
  simp only [lenOk, Bool.or_eq_true, beq_iff_eq] at h
  rcases h with (((((rfl | rfl) | rfl) | rfl) | rfl) | rfl) | rfl
  · exact dev1
  · exact dev2
  · exact dev4
  · exact dev8
  · exact dev16
  · exact dev32
  · exact dev64
end Ear
