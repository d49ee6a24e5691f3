/- Plain: emphasis and restoring as whole answers; each undoes the other. -/
import Derived.Test.YtnflpnbpigcfhabDoorPRst
namespace Ear
/-- error and list of an emphasis -/
def empR (l : List Int) (num den : Int) : Int × List Int := if rchk l num den = 0 then (if vchk (emp l num den) = 0 then (0, emp l num den) else (2, [])) else (rchk l num den, [])
def rstR (l : List Int) (num den : Int) : Int × List Int := if rchk l num den = 0 then (if vls (rst l num den) = true then (0, rst l num den) else (2, [])) else (rchk l num den, [])
theorem rchk_ok {l : List Int} {num den : Int} : rchk l num den = 0 ↔ (l.length ≤ 200000 ∧ vls l = true) ∧ 0 ≤ num ∧ num ≤ den ∧ 1 ≤ den ∧ den ≤ 1024 := by
  unfold rchk
  rw [← vchk_ok]
  split
  · split <;> simp_all
  · simp_all
theorem emp_length (l : List Int) (num den : Int) : (emp l num den).length = l.length := by simp [emp]
theorem emp_get {l : List Int} {num den : Int} {k : Nat} (h : k < l.length) : (emp l num den)[k]?.getD 0 = empAt l num den k := by simp [emp, h]
theorem rst_get {l : List Int} {num den : Int} {k : Nat} (h : k < l.length) : (rst l num den)[k]?.getD 0 = rstAt l num den k := by simp [rst, h]
theorem rst_emp (l : List Int) (num den : Int) : rst (emp l num den) num den = l := by
  have key : ∀ k, k < l.length → rstAt (emp l num den) num den k = l[k]?.getD 0 := by
    intro k
    induction k with
    | zero => intro h; rw [rstAt, emp_get h]; simp [empAt]
    | succ k ih =>
      intro h
      rw [rstAt, emp_get h, ih (by omega)]
      simp only [empAt, if_neg (show ¬ k + 1 = 0 by omega), Nat.add_sub_cancel]
      omega
  apply List.ext_getElem (by rw [rst_length, emp_length])
  intro k h1 h2
  simp only [rst, List.getElem_map, List.getElem_range]
  rw [key k h2]
  simp [List.getElem?_eq_getElem h2]
theorem emp_rst (l : List Int) (num den : Int) : emp (rst l num den) num den = l := by
  apply List.ext_getElem (by rw [emp_length, rst_length])
  intro k h1 h2
  simp only [emp, List.getElem_map, List.getElem_range]
  unfold empAt
  cases k with
  | zero => rw [if_pos rfl, rst_get h2, rstAt]; simp [List.getElem?_eq_getElem h2]
  | succ k =>
    rw [if_neg (by omega), rst_get h2, Nat.add_sub_cancel, rst_get (by omega), rstAt]
    simp only [List.getElem?_eq_getElem h2, Option.getD_some]
    omega
theorem empR_ok {l : List Int} {num den : Int} (h : (empR l num den).1 = 0) : rstR (empR l num den).2 num den = (0, l) := by
  unfold empR at h ⊢
  by_cases h1 : rchk l num den = 0
  · rw [if_pos h1] at h ⊢
    by_cases h2 : vchk (emp l num den) = 0
    · rw [if_pos h2]
      have h3 := rchk_ok.1 h1
      have h4 := vchk_ok.1 h2
      have h5 : rchk (emp l num den) num den = 0 := rchk_ok.2 ⟨h4, h3.2⟩
      simp only [rstR]
      rw [if_pos h5, rst_emp, if_pos h3.1.2]
    · rw [if_neg h2] at h; simp at h
  · rw [if_neg h1] at h; exact absurd h h1
theorem rstR_ok {l : List Int} {num den : Int} (h : (rstR l num den).1 = 0) : empR (rstR l num den).2 num den = (0, l) := by
  unfold rstR at h ⊢
  by_cases h1 : rchk l num den = 0
  · rw [if_pos h1] at h ⊢
    by_cases h2 : vls (rst l num den) = true
    · rw [if_pos h2]
      have h3 := rchk_ok.1 h1
      have h5 : rchk (rst l num den) num den = 0 := rchk_ok.2 ⟨⟨by rw [rst_length]; exact h3.1.1, h2⟩, h3.2⟩
      simp only [empR]
      rw [if_pos h5, emp_rst, if_pos (vchk_ok.2 h3.1)]
    · rw [if_neg h2] at h; simp at h
  · rw [if_neg h1] at h; exact absurd h h1
theorem empR_len (l : List Int) (num den : Int) : (empR l num den).2.length ≤ l.length := by
  unfold empR
  split
  · split <;> simp [emp_length]
  · simp
theorem rstR_len (l : List Int) (num den : Int) : (rstR l num den).2.length ≤ l.length := by
  unfold rstR
  split
  · split <;> simp [rst_length]
  · simp
end Ear
