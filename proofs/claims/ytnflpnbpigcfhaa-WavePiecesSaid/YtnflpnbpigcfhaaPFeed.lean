/- Plain: a listener is fed. -/
import Derived.Test.YtnflpnbpigcfhaaPSeg
namespace Ear
def Ls.Inv (s : Ls) : Prop := (s.state = 0 ∨ s.state = 1) ∧ 0 ≤ s.run ∧ s.run ≤ s.blocks ∧ 0 ≤ s.free ∧ s.free ≤ s.blocks ∧ 0 ≤ s.begin_ ∧ s.begin_ ≤ s.blocks
theorem Ls.step_inv {g : Gt} {s : Ls} {n : Int} (hg : g.ok) (h : s.Inv) : (s.step g n).1.Inv ∧ (s.step g n).1.blocks = s.blocks + 1 ∧ (s.step g n).1.samples = s.samples := by
  obtain ⟨s1, s2, s3, s4, s5, s6⟩ := s
  obtain ⟨g1, g2, g3, g4, g5, g6, g7⟩ := g
  simp only [Ls.Inv, Gt.ok] at h hg
  simp only [Ls.step]
  split
  · split <;> split <;> (refine ⟨⟨?_, ?_, ?_, ?_, ?_, ?_, ?_⟩, rfl, rfl⟩ <;> dsimp only <;> omega)
  · split <;> split <;> (try split) <;> (refine ⟨⟨?_, ?_, ?_, ?_, ?_, ?_, ?_⟩, rfl, rfl⟩ <;> dsimp only <;> omega)
/-- the state and the segments after k blocks -/
def stp (g : Gt) (B : Nat) (s : Ls) (all : List Int) : Nat → Ls × List (Int × Int)
  | 0 => (s, [])
  | k + 1 => (((stp g B s all k).1.step g (enr ((all.drop (k * B)).take B))).1, (stp g B s all k).2 ++ ((stp g B s all k).1.step g (enr ((all.drop (k * B)).take B))).2.toList)
theorem stp_inv {g : Gt} {B : Nat} {s : Ls} {all : List Int} (hg : g.ok) (h : s.Inv) : ∀ k, (stp g B s all k).1.Inv ∧ (stp g B s all k).1.blocks = s.blocks + k ∧ (stp g B s all k).1.samples = s.samples := by
  intro k
  induction k with
  | zero => simp [stp, h]
  | succ k ih =>
    have := Ls.step_inv (n := enr ((all.drop (k * B)).take B)) hg ih.1
    simp only [stp]
    refine ⟨this.1, by rw [this.2.1, ih.2.1]; omega, by rw [this.2.2, ih.2.2]⟩
theorem Ls.step_wait_none {g : Gt} {s : Ls} {n : Int} (h : s.state = 0) : (s.step g n).2 = none := by
  simp only [Ls.step, if_pos h]; split <;> split <;> rfl
theorem stp_len (g : Gt) (B : Nat) (s : Ls) (all : List Int) : ∀ k, (stp g B s all k).2.length ≤ k := by
  intro k
  induction k with
  | zero => simp [stp]
  | succ k ih =>
    simp only [stp, List.length_append]
    have : ((stp g B s all k).1.step g (enr ((all.drop (k * B)).take B))).2.toList.length ≤ 1 := by
      cases ((stp g B s all k).1.step g (enr ((all.drop (k * B)).take B))).2 <;> simp
    omega
theorem smp_drop {l : List Int} (h : smp l = true) (k : Nat) : smp (l.drop k) = true := allR_of fun _ hx => allR_mem h (List.mem_of_mem_drop hx)
theorem smp_take {l : List Int} (h : smp l = true) (k : Nat) : smp (l.take k) = true := allR_of fun _ hx => allR_mem h (List.mem_of_mem_take hx)
theorem smp_append {a b : List Int} (ha : smp a = true) (hb : smp b = true) : smp (a ++ b) = true := allR_of fun x hx => by
  rcases List.mem_append.1 hx with h | h
  · exact allR_mem ha h
  · exact allR_mem hb h
end Ear
