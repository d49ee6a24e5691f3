/- Plain words of the wave layer: which lists and recordings are right. -/
import Derived.Test.YtnflpnbpigcfhaaPRnd
namespace Ear

/-- x is from lo to hi -/
def inR (lo hi x : Int) : Bool := decide (lo ≤ x) && decide (x ≤ hi)
theorem inR_true {lo hi x : Int} : inR lo hi x = true ↔ lo ≤ x ∧ x ≤ hi := by simp [inR]
theorem inR_false {lo hi x : Int} : inR lo hi x = false ↔ x < lo ∨ hi < x := by
  cases h : inR lo hi x with
  | true => rw [inR_true] at h; simp; omega
  | false => simp [inR] at h; simp; omega
/-- all numbers are from lo to hi -/
def allR (lo hi : Int) (l : List Int) : Bool := l.all (inR lo hi)
theorem allR_mem {lo hi : Int} {l : List Int} (h : allR lo hi l = true) {x : Int} (hx : x ∈ l) : lo ≤ x ∧ x ≤ hi :=
  inR_true.1 (List.all_eq_true.1 h x hx)
theorem allR_of {lo hi : Int} {l : List Int} (h : ∀ x ∈ l, lo ≤ x ∧ x ≤ hi) : allR lo hi l = true :=
  List.all_eq_true.2 fun x hx => inR_true.2 (h x hx)
theorem allR_get {lo hi : Int} {l : List Int} (h : allR lo hi l = true) {k : Nat} (hk : k < l.length) : lo ≤ l[k] ∧ l[k] ≤ hi := allR_mem h (List.getElem_mem hk)
/-- samples -/
def smp (l : List Int) : Bool := allR (-32768) 32767 l
/-- values -/
def vls (l : List Int) : Bool := allR (-2147483647) 2147483647 l
/-- what is wrong with a recording: 5, 2 or 0 -/
def chk (rate : Int) (l : List Int) : Int := if 200000 < l.length then 5 else if 1 ≤ rate ∧ rate ≤ 192000 ∧ smp l = true then 0 else 2
theorem chk_ok {rate : Int} {l : List Int} : chk rate l = 0 ↔ l.length ≤ 200000 ∧ 1 ≤ rate ∧ rate ≤ 192000 ∧ smp l = true := by
  unfold chk
  split
  · simp; omega
  · split <;> simp_all
/-- what is wrong with a list of values -/
def vchk (l : List Int) : Int := if 200000 < l.length then 5 else if vls l = true then 0 else 2
theorem vchk_ok {l : List Int} : vchk l = 0 ↔ l.length ≤ 200000 ∧ vls l = true := by
  unfold vchk
  split
  · simp; omega
  · split <;> simp_all
/-- what is wrong with a list and the numbers of an emphasis -/
def rchk (l : List Int) (num den : Int) : Int := if vchk l = 0 then (if 0 ≤ num ∧ num ≤ den ∧ 1 ≤ den ∧ den ≤ 1024 then 0 else 2) else vchk l
end Ear
