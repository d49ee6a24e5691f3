/- Plain: a listener that is fed piece by piece. -/
import Derived.Test.YtnhkngmdjomfjaaPFeed
namespace Ear
/-- the same listener with another number of samples -/
def Ls.at_ (s : Ls) (m : Int) : Ls := { s with samples := m }
theorem Ls.step_at (g : Gt) (s : Ls) (m n : Int) : (s.at_ m).step g n = ((s.step g n).1.at_ m, (s.step g n).2) := by
  unfold Ls.step Ls.at_
  simp only
  split
  · split <;> split <;> rfl
  · split <;> split <;> (try split) <;> rfl
theorem stp_at (g : Gt) (B : Nat) (s : Ls) (m : Int) (all : List Int) : ∀ k, stp g B (s.at_ m) all k = ((stp g B s all k).1.at_ m, (stp g B s all k).2) := by
  intro k
  induction k with
  | zero => rfl
  | succ k ih => simp only [stp, ih, Ls.step_at]
theorem stp_pre (g : Gt) (B : Nat) (s : Ls) (x y : List Int) : ∀ k, k * B ≤ x.length → stp g B s (x ++ y) k = stp g B s x k := by
  intro k
  induction k with
  | zero => intro _; rfl
  | succ k ih =>
    intro h
    rw [Nat.succ_mul] at h
    have hb : ((x ++ y).drop (k * B)).take B = (x.drop (k * B)).take B := by
      rw [List.drop_append_of_le_length (by omega), List.take_append_of_le_length (by simp; omega)]
    simp only [stp, ih (by omega), hb]
theorem stp_add (g : Gt) (B : Nat) (s : Ls) (all : List Int) (q : Nat) : ∀ j, stp g B s all (q + j) = ((stp g B (stp g B s all q).1 (all.drop (q * B)) j).1, (stp g B s all q).2 ++ (stp g B (stp g B s all q).1 (all.drop (q * B)) j).2) := by
  intro j
  induction j with
  | zero => simp [stp]
  | succ j ih =>
    have hb : ((all.drop (q * B)).drop (j * B)).take B = (all.drop ((q + j) * B)).take B := by rw [List.drop_drop, Nat.add_mul]
    rw [← Nat.add_assoc]
    simp only [stp, ih, hb, List.append_assoc]
/-- what a new listener knows after some samples, and the segments that have ended -/
def Fed (g : Gt) (B : Nat) (all : List Int) : Ls × List (Int × Int) :=
  ((stp g B ⟨0, 0, 0, 0, 0, 0⟩ all (all.length / B)).1.at_ all.length, (stp g B ⟨0, 0, 0, 0, 0, 0⟩ all (all.length / B)).2)
/-- the samples of the block that is not complete -/
def rest_ (B : Nat) (all : List Int) : List Int := all.drop (all.length / B * B)
theorem Ls.at_at (s : Ls) (m m' : Int) : (s.at_ m).at_ m' = s.at_ m' := rfl
theorem div_split {a b B q : Nat} (hB : 1 ≤ B) (hq : q = a / B) : (a + b) / B = q + (a - q * B + b) / B := by
  subst hq
  have h := Nat.div_mul_le_self a B
  have e : a + b = (a - a / B * B + b) + B * (a / B) := by rw [Nat.mul_comm B]; omega
  rw [e, Nat.add_mul_div_left _ _ (by omega)]
  rw [Nat.add_comm]
theorem fed_next (g : Gt) {B : Nat} (hB : 1 ≤ B) (all x : List Int) :
    stp g B { (Fed g B all).1 with samples := (Fed g B all).1.samples + x.length } (rest_ B all ++ x) ((rest_ B all ++ x).length / B) =
      ((Fed g B (all ++ x)).1, (stp g B { (Fed g B all).1 with samples := (Fed g B all).1.samples + x.length } (rest_ B all ++ x) ((rest_ B all ++ x).length / B)).2) ∧
    (Fed g B (all ++ x)).2 = (Fed g B all).2 ++ (stp g B { (Fed g B all).1 with samples := (Fed g B all).1.samples + x.length } (rest_ B all ++ x) ((rest_ B all ++ x).length / B)).2 ∧
    (rest_ B all ++ x).drop ((rest_ B all ++ x).length / B * B) = rest_ B (all ++ x) := by
  have hd := Nat.div_mul_le_self all.length B
  have hdl : (all ++ x).drop (all.length / B * B) = rest_ B all ++ x := by unfold rest_; rw [List.drop_append_of_le_length hd]
  have hlen : (rest_ B all ++ x).length = all.length - all.length / B * B + x.length := by unfold rest_; simp
  have hdiv : (all ++ x).length / B = all.length / B + (rest_ B all ++ x).length / B := by
    rw [hlen, List.length_append]; exact div_split hB rfl
  have hst : { (Fed g B all).1 with samples := (Fed g B all).1.samples + x.length } = (stp g B ⟨0, 0, 0, 0, 0, 0⟩ all (all.length / B)).1.at_ ((all ++ x).length : Nat) := by
    simp only [Fed, Ls.at_, List.length_append, Int.natCast_add]
  rw [hst, stp_at]
  have hadd := stp_add g B ⟨0, 0, 0, 0, 0, 0⟩ (all ++ x) (all.length / B) ((rest_ B all ++ x).length / B)
  rw [← hdiv, stp_pre g B _ all x _ hd, hdl] at hadd
  refine ⟨?_, ?_, ?_⟩
  · simp only [Fed, hadd]
  · simp only [Fed, hadd]
  · unfold rest_ at hdl ⊢
    rw [← hdl, List.drop_drop, hdl]
    have := hdiv
    unfold rest_ at this
    rw [this, Nat.add_mul]
theorem Fed_nil (g : Gt) (B : Nat) : Fed g B [] = (⟨0, 0, 0, 0, 0, 0⟩, []) ∧ rest_ B [] = [] := by
  constructor
  · unfold Fed; simp [stp, Ls.at_]
  · unfold rest_; simp
theorem Fed_inv {g : Gt} (hg : g.ok) (B : Nat) (all : List Int) : (Fed g B all).1.Inv ∧ (Fed g B all).1.blocks = (all.length / B : Nat) ∧ (Fed g B all).1.samples = all.length ∧ (Fed g B all).2.length ≤ all.length / B := by
  have h := stp_inv (B := B) (s := ⟨0, 0, 0, 0, 0, 0⟩) (all := all) hg (by simp [Ls.Inv]) (all.length / B)
  have hl := stp_len g B ⟨0, 0, 0, 0, 0, 0⟩ all (all.length / B)
  refine ⟨h.1, ?_, rfl, hl⟩
  have := h.2.1
  simp only at this
  show (stp g B ⟨0, 0, 0, 0, 0, 0⟩ all (all.length / B)).1.blocks = _
  omega
theorem rest_len {B : Nat} (hB : 1 ≤ B) (all : List Int) : (rest_ B all).length ≤ B := by
  unfold rest_
  rw [List.length_drop]
  have := Nat.div_add_mod all.length B
  have := Nat.mod_lt all.length (show 0 < B by omega)
  have e : all.length / B * B = B * (all.length / B) := Nat.mul_comm ..
  omega
theorem seg_fed (g : Gt) (B : Nat) (x : List Int) : stp g B ⟨0, 0, (0 : Int) + x.length, 0, 0, 0⟩ x (x.length / B) = Fed g B x := by
  unfold Fed
  rw [Int.zero_add]
  exact stp_at g B ⟨0, 0, 0, 0, 0, 0⟩ x.length x (x.length / B)
end Ear
