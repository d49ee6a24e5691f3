/- Plain: where somebody speaks. -/
import Derived.Test.YtnflpnbpigcfhaaPWin
namespace Ear
/-- the sum of the squares -/
def enr : List Int → Int
  | [] => 0
  | x :: l => x * x + enr l
theorem enr_append (a b : List Int) : enr (a ++ b) = enr a + enr b := by
  induction a with
  | nil => simp [enr]
  | cons x l ih => simp [enr, ih]; omega
theorem enr_bd {l : List Int} {B : Int} (h : ∀ x ∈ l, -B ≤ x ∧ x ≤ B) : 0 ≤ enr l ∧ enr l ≤ B * B * l.length := by
  induction l with
  | nil => simp [enr]
  | cons x l ih =>
    have h1 := ih (fun y hy => h y (List.mem_cons_of_mem _ hy))
    have h2 := sq_bd (h x (List.mem_cons_self ..)).1 (h x (List.mem_cons_self ..)).2
    simp only [enr, List.length_cons]
    have : B * B * ((l.length + 1 : Nat) : Int) = B * B * l.length + B * B := by
      rw [Int.natCast_add, Int.mul_add]; simp
    omega
/-- a gate -/
structure Gt where
  block : Int
  high : Int
  low : Int
  rise : Int
  fall : Int
  lead : Int
  longest : Int
/-- a gate is as defined -/
def Gt.ok (g : Gt) : Prop := 1 ≤ g.block ∧ g.block ≤ 4096 ∧ 0 ≤ g.low ∧ g.low ≤ g.high ∧ g.high ≤ 1073741824 ∧ 1 ≤ g.rise ∧ g.rise ≤ 1000 ∧ 1 ≤ g.fall ∧ g.fall ≤ 1000 ∧ 0 ≤ g.lead ∧ g.lead ≤ 1000 ∧ g.rise + g.fall + g.lead ≤ g.longest ∧ g.longest ≤ 100000
instance (g : Gt) : Decidable g.ok := by unfold Gt.ok; infer_instance
/-- what a listener knows -/
structure Ls where
  state : Int
  blocks : Int
  samples : Int
  run : Int
  begin_ : Int
  free : Int
/-- after a block of energy n; a segment may have ended -/
def Ls.step (g : Gt) (s : Ls) (n : Int) : Ls × Option (Int × Int) :=
  if s.state = 0 then
    let r := if g.high * g.block ≤ n then s.run + 1 else 0
    if r = g.rise then ({ s with state := 1, blocks := s.blocks + 1, run := 0, begin_ := max (s.blocks - g.rise + 1 - g.lead) s.free }, none)
    else ({ s with blocks := s.blocks + 1, run := r }, none)
  else
    let r := if n < g.low * g.block then s.run + 1 else 0
    if r = g.fall then ({ s with state := 0, blocks := s.blocks + 1, run := 0, free := s.blocks - g.fall + 1 }, some (s.begin_ * g.block, (s.blocks - g.fall + 1) * g.block))
    else if s.blocks - s.begin_ + 1 = g.longest then ({ s with state := 0, blocks := s.blocks + 1, run := 0, free := s.blocks + 1 }, some (s.begin_ * g.block, (s.blocks + 1) * g.block))
    else ({ s with blocks := s.blocks + 1, run := r }, none)
theorem Ls.step_wait_no {g : Gt} {s : Ls} {n R : Int} {ld : Bool} (h0 : s.state = 0) (hl : decide (g.high * g.block ≤ n) = ld) (hR : (if ld = true then s.run + 1 else 0) = R) (hne : ¬ R = g.rise) :
    s.step g n = ({ s with blocks := s.blocks + 1, run := R }, none) := by
  have : (if g.high * g.block ≤ n then s.run + 1 else 0) = R := by rw [← hR, ← hl]; simp only [decide_eq_true_eq]
  simp only [Ls.step, if_pos h0, this, if_neg hne]
theorem Ls.step_wait_yes {g : Gt} {s : Ls} {n R : Int} {ld : Bool} (h0 : s.state = 0) (hl : decide (g.high * g.block ≤ n) = ld) (hR : (if ld = true then s.run + 1 else 0) = R) (he : R = g.rise) :
    s.step g n = ({ s with state := 1, blocks := s.blocks + 1, run := 0, begin_ := max (s.blocks - g.rise + 1 - g.lead) s.free }, none) := by
  have : (if g.high * g.block ≤ n then s.run + 1 else 0) = R := by rw [← hR, ← hl]; simp only [decide_eq_true_eq]
  simp only [Ls.step, if_pos h0, this, if_pos he]
theorem Ls.step_speech_fall {g : Gt} {s : Ls} {n R : Int} {qt : Bool} (h0 : ¬ s.state = 0) (hl : decide (n < g.low * g.block) = qt) (hR : (if qt = true then s.run + 1 else 0) = R) (he : R = g.fall) :
    s.step g n = ({ s with state := 0, blocks := s.blocks + 1, run := 0, free := s.blocks - g.fall + 1 }, some (s.begin_ * g.block, (s.blocks - g.fall + 1) * g.block)) := by
  have : (if n < g.low * g.block then s.run + 1 else 0) = R := by rw [← hR, ← hl]; simp only [decide_eq_true_eq]
  simp only [Ls.step, if_neg h0, this, if_pos he]
theorem Ls.step_speech_long {g : Gt} {s : Ls} {n R : Int} {qt : Bool} (h0 : ¬ s.state = 0) (hl : decide (n < g.low * g.block) = qt) (hR : (if qt = true then s.run + 1 else 0) = R) (he : ¬ R = g.fall) (hg : s.blocks - s.begin_ + 1 = g.longest) :
    s.step g n = ({ s with state := 0, blocks := s.blocks + 1, run := 0, free := s.blocks + 1 }, some (s.begin_ * g.block, (s.blocks + 1) * g.block)) := by
  have : (if n < g.low * g.block then s.run + 1 else 0) = R := by rw [← hR, ← hl]; simp only [decide_eq_true_eq]
  simp only [Ls.step, if_neg h0, this, if_neg he, if_pos hg]
theorem Ls.step_speech_on {g : Gt} {s : Ls} {n R : Int} {qt : Bool} (h0 : ¬ s.state = 0) (hl : decide (n < g.low * g.block) = qt) (hR : (if qt = true then s.run + 1 else 0) = R) (he : ¬ R = g.fall) (hg : ¬ s.blocks - s.begin_ + 1 = g.longest) :
    s.step g n = ({ s with blocks := s.blocks + 1, run := R }, none) := by
  have : (if n < g.low * g.block then s.run + 1 else 0) = R := by rw [← hR, ← hl]; simp only [decide_eq_true_eq]
  simp only [Ls.step, if_neg h0, this, if_neg he, if_neg hg]
end Ear
