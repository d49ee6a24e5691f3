/- Plain: segments come in order; loud samples are speech from the first one on. -/
import Derived.Test.YtnhkngmdjomfjaaPFeed
namespace Ear
/-- where the segment before i ends -/
def prevTo (l : List (Int × Int)) : Nat → Int
  | 0 => 0
  | i + 1 => (l[i]?.getD (0, 0)).2
/-- a segment is as it should be -/
def SegGood (B L N last : Int) (s : Int × Int) : Prop := last ≤ s.1 ∧ s.1 < s.2 ∧ s.2 ≤ N ∧ s.1 % B = 0 ∧ s.2 - s.1 < (L + 1) * B ∧ 0 ≤ s.1
def SegsGood (B L N : Int) (l : List (Int × Int)) : Prop := ∀ i, i < l.length → SegGood B L N (prevTo l i) (l[i]?.getD (0, 0))
theorem prevTo_append {l : List (Int × Int)} {s : Int × Int} {i : Nat} (h : i ≤ l.length) : prevTo (l ++ [s]) i = prevTo l i := by
  cases i with
  | zero => rfl
  | succ i => simp only [prevTo]; rw [List.getElem?_append_left (by omega)]
theorem SegsGood.snoc {B L N : Int} {l : List (Int × Int)} {s : Int × Int} (h : SegsGood B L N l) (hs : SegGood B L N (prevTo l l.length) s) : SegsGood B L N (l ++ [s]) := by
  intro i hi
  rw [prevTo_append (by simp at hi; omega)]
  by_cases h1 : i < l.length
  · rw [List.getElem?_append_left h1]; exact h i h1
  · have : i = l.length := by simp at hi; omega
    subst this
    simp
    exact hs
theorem SegsGood.mono {B L N N' : Int} {l : List (Int × Int)} (h : SegsGood B L N l) (hN : N ≤ N') : SegsGood B L N' l := by
  intro i hi
  obtain ⟨h1, h2, h3, h4⟩ := h i hi
  exact ⟨h1, h2, by omega, h4⟩
theorem prevTo_snoc {l : List (Int × Int)} {s : Int × Int} : prevTo (l ++ [s]) (l ++ [s]).length = s.2 := by
  simp [prevTo]
/-- what holds between blocks -/
def OrdInv (g : Gt) (p : Ls × List (Int × Int)) : Prop :=
  p.1.Inv ∧ SegsGood g.block g.longest (p.1.blocks * g.block) p.2 ∧ prevTo p.2 p.2.length = p.1.free * g.block ∧ (p.1.state = 1 → p.1.free ≤ p.1.begin_ ∧ p.1.begin_ + p.1.run + 1 ≤ p.1.blocks ∧ p.1.blocks - p.1.begin_ < g.longest)
theorem good_of {g : Gt} (hg : g.ok) {free b e N : Int} (h0 : 0 ≤ b) (h1 : free ≤ b) (h2 : b < e) (h3 : e - b ≤ g.longest) (hN : e * g.block ≤ N) : SegGood g.block g.longest N (free * g.block) (b * g.block, e * g.block) := by
  have hB := hg.1
  have a1 := Int.mul_le_mul_of_nonneg_right h1 (show 0 ≤ g.block by omega)
  have a2 : (b + 1) * g.block ≤ e * g.block := Int.mul_le_mul_of_nonneg_right (by omega) (by omega)
  have a3 : (e - b) * g.block ≤ g.longest * g.block := Int.mul_le_mul_of_nonneg_right h3 (by omega)
  have a4 : 0 ≤ b * g.block := Int.mul_nonneg h0 (by omega)
  rw [Int.add_mul] at a2
  rw [Int.sub_mul] at a3
  refine ⟨a1, ?_, hN, Int.mul_emod_left _ _, ?_, a4⟩
  · show b * g.block < e * g.block; omega
  · show e * g.block - b * g.block < _; rw [Int.add_mul]; omega
theorem ord_step {g : Gt} {s : Ls} {l : List (Int × Int)} {n : Int} (hg : g.ok) (h : OrdInv g (s, l)) : OrdInv g ((s.step g n).1, l ++ (s.step g n).2.toList) := by
  obtain ⟨h1, h2, h3, h4⟩ := h
  have hi := (Ls.step_inv (n := n) hg h1)
  simp only at h1 h2 h3 h4
  have hB := hg.1
  have hmono : s.blocks * g.block ≤ (s.blocks + 1) * g.block := Int.mul_le_mul_of_nonneg_right (by omega) (by omega)
  refine ⟨hi.1, ?_⟩
  obtain ⟨_, i2, i3, i4, i5, i6, i7⟩ := h1
  obtain ⟨_, _, _, _, _, r1, _, f1, _, l1, _, lg, _⟩ := hg
  by_cases h0 : s.state = 0
  · obtain ⟨R, hR⟩ : ∃ R, (if decide (g.high * g.block ≤ n) = true then s.run + 1 else 0) = R := ⟨_, rfl⟩
    by_cases he : R = g.rise
    · rw [Ls.step_wait_yes h0 rfl hR he]
      simp only [Option.toList_none, List.append_nil]
      have hRb : R ≤ s.run + 1 := by rw [← hR]; split <;> omega
      exact ⟨h2.mono hmono, h3, fun _ => ⟨by omega, by omega, by omega⟩⟩
    · rw [Ls.step_wait_no h0 rfl hR he]
      simp only [Option.toList_none, List.append_nil]
      exact ⟨h2.mono hmono, h3, fun h5 => by omega⟩
  · have h01 : s.state = 1 := by rcases ‹s.state = 0 ∨ s.state = 1› with h | h; exact absurd h h0; exact h
    obtain ⟨j1, j2, j3⟩ := h4 h01
    obtain ⟨R, hR⟩ : ∃ R, (if decide (n < g.low * g.block) = true then s.run + 1 else 0) = R := ⟨_, rfl⟩
    have hRb : R ≤ s.run + 1 ∧ 0 ≤ R := by rw [← hR]; split <;> omega
    by_cases he : R = g.fall
    · rw [Ls.step_speech_fall h0 rfl hR he]
      simp only [Option.toList_some]
      have hg' : g.ok := by unfold Gt.ok; omega
      have hN : (s.blocks - g.fall + 1) * g.block ≤ (s.blocks + 1) * g.block := Int.mul_le_mul_of_nonneg_right (by omega) (by omega)
      refine ⟨(h2.mono hmono).snoc ?_, prevTo_snoc, fun h5 => by omega⟩
      rw [h3]
      exact good_of hg' i6 j1 (by omega) (by omega) hN
    · by_cases hl : s.blocks - s.begin_ + 1 = g.longest
      · rw [Ls.step_speech_long h0 rfl hR he hl]
        simp only [Option.toList_some]
        have hg' : g.ok := by unfold Gt.ok; omega
        refine ⟨(h2.mono hmono).snoc ?_, prevTo_snoc, fun h5 => by omega⟩
        rw [h3]
        exact good_of hg' i6 j1 (by omega) (by omega) (Int.le_refl _)
      · rw [Ls.step_speech_on h0 rfl hR he hl]
        simp only [Option.toList_none, List.append_nil]
        exact ⟨h2.mono hmono, h3, fun _ => ⟨j1, by omega, by omega⟩⟩
theorem stp_ord {g : Gt} {B : Nat} {s : Ls} {all : List Int} (hg : g.ok) (h : OrdInv g (s, [])) : ∀ k, OrdInv g (stp g B s all k) := by
  intro k
  induction k with
  | zero => exact h
  | succ k ih => exact ord_step hg ih
/-- the state after all blocks, and all segments -/
theorem ord_all {g : Gt} {B : Nat} (hg : g.ok) (hB : g.block = B) (x : List Int) (r : Ls × List (Int × Int)) (hr : r = stp g B ⟨0, 0, (0 : Int) + x.length, 0, 0, 0⟩ x (x.length / B)) :
    SegsGood g.block g.longest x.length (r.2 ++ (if r.1.state = 1 then [(r.1.begin_ * g.block, r.1.samples)] else [])) := by
  have h0 : OrdInv g (⟨0, 0, (0 : Int) + x.length, 0, 0, 0⟩, []) := ⟨by simp [Ls.Inv], fun i hi => by simp at hi, by simp [prevTo], fun h => by simp at h⟩
  have h := stp_ord (B := B) (all := x) hg h0 (x.length / B)
  have hb := stp_inv (B := B) (s := ⟨0, 0, (0 : Int) + x.length, 0, 0, 0⟩) (all := x) hg (by simp [Ls.Inv]) (x.length / B)
  rw [← hr] at h hb
  obtain ⟨h1, h2, h3, h4⟩ := h
  obtain ⟨_, hb1, hb2⟩ := hb
  simp only at hb1 hb2
  have hB1 := hg.1
  have hd := Nat.div_add_mod x.length B
  have hm := Nat.mod_lt x.length (show 0 < B by omega)
  generalize x.length / B = q at *
  have e1 : r.1.blocks * g.block = ((B * q : Nat) : Int) := by rw [hb1, hB, Int.natCast_mul, Int.mul_comm]; simp
  have hN : r.1.blocks * g.block ≤ (x.length : Int) := by omega
  split
  · rename_i hs
    obtain ⟨j1, j2, j3⟩ := h4 hs
    refine (h2.mono hN).snoc ?_
    rw [h3]
    have i6 := h1.2.2.2.2.2.1
    have a1 := Int.mul_le_mul_of_nonneg_right j1 (show 0 ≤ g.block by omega)
    have i2 := h1.2.1
    have a2 : (r.1.begin_ + 1) * g.block ≤ r.1.blocks * g.block := Int.mul_le_mul_of_nonneg_right (by omega) (by omega)
    have a3 : (r.1.blocks - r.1.begin_) * g.block ≤ (g.longest - 1) * g.block := Int.mul_le_mul_of_nonneg_right (by omega) (by omega)
    have a4 : 0 ≤ r.1.begin_ * g.block := Int.mul_nonneg i6 (by omega)
    rw [Int.add_mul] at a2
    rw [Int.sub_mul, Int.sub_mul] at a3
    refine ⟨a1, ?_, by show r.1.samples ≤ _; omega, Int.mul_emod_left _ _, ?_, a4⟩
    · show r.1.begin_ * g.block < r.1.samples; omega
    · show r.1.samples - r.1.begin_ * g.block < _
      rw [Int.add_mul]; omega
  · rw [List.append_nil]; exact h2.mono hN
theorem enr_ge {l : List Int} {H : Int} (h : ∀ v ∈ l, H ≤ v * v) : H * l.length ≤ enr l := by
  induction l with
  | nil => simp [enr]
  | cons v l ih =>
    have h1 := ih fun u hu => h u (List.mem_cons_of_mem _ hu)
    have h2 := h v (List.mem_cons_self ..)
    simp only [enr, List.length_cons]
    rw [Int.natCast_add, Int.mul_add]
    omega
/-- loud blocks -/
def LoudInv (g : Gt) (k : Nat) (p : Ls × List (Int × Int)) : Prop :=
  p.1.blocks = k ∧ (((k : Int) < g.rise ∧ p.1.state = 0 ∧ p.1.run = k ∧ p.1.free = 0 ∧ p.2 = []) ∨ (g.rise ≤ (k : Int) ∧ p.1.state = 1 ∧ p.1.begin_ = 0 ∧ p.2 = []) ∨ (g.rise ≤ (k : Int) ∧ ∃ t l, p.2 = (0, t) :: l))
theorem loud_step {g : Gt} {s : Ls} {l : List (Int × Int)} {n : Int} {k : Nat} (hg : g.ok) (hi : s.Inv) (hn : g.high * g.block ≤ n) (h : LoudInv g k (s, l)) : LoudInv g (k + 1) ((s.step g n).1, l ++ (s.step g n).2.toList) := by
  obtain ⟨hb, h⟩ := h
  simp only at hb h
  refine ⟨by have := (Ls.step_inv (n := n) hg hi).2.1; simp only; omega, ?_⟩
  obtain ⟨_, _, _, _, _, r1, _, f1, _, l1, _, lg, _⟩ := hg
  rcases h with ⟨h1, h2, h3, h4, h5⟩ | ⟨h1, h2, h3, h4⟩ | ⟨h1, t, l', h2⟩
  · by_cases he : s.run + 1 = g.rise
    · rw [Ls.step_wait_yes (R := s.run + 1) (ld := true) h2 (by simp; exact hn) (by simp) he]
      refine .inr (.inl ⟨by omega, rfl, ?_, by simp [h5]⟩)
      show max _ _ = _
      omega
    · rw [Ls.step_wait_no (R := s.run + 1) (ld := true) h2 (by simp; exact hn) (by simp) he]
      exact .inl ⟨by omega, h2, by show s.run + 1 = _; omega, h4, by simp [h5]⟩
  · have h0 : ¬ s.state = 0 := by omega
    obtain ⟨R, hR⟩ : ∃ R, (if decide (n < g.low * g.block) = true then s.run + 1 else 0) = R := ⟨_, rfl⟩
    by_cases he : R = g.fall
    · rw [Ls.step_speech_fall h0 rfl hR he]
      refine .inr (.inr ⟨by omega, (s.blocks - g.fall + 1) * g.block, [], ?_⟩)
      simp [h3, h4]
    · by_cases hl : s.blocks - s.begin_ + 1 = g.longest
      · rw [Ls.step_speech_long h0 rfl hR he hl]
        refine .inr (.inr ⟨by omega, (s.blocks + 1) * g.block, [], ?_⟩)
        simp [h3, h4]
      · rw [Ls.step_speech_on h0 rfl hR he hl]
        exact .inr (.inl ⟨by omega, h2, h3, by simp [h4]⟩)
  · exact .inr (.inr ⟨by omega, t, l' ++ (s.step g n).2.toList, by simp [h2]⟩)
theorem loud_all {g : Gt} {B : Nat} (hg : g.ok) (hB : g.block = B) (x : List Int) (hx : ∀ v ∈ x, g.high ≤ v * v) : ∀ k, k * B ≤ x.length → LoudInv g k (stp g B ⟨0, 0, (0 : Int) + x.length, 0, 0, 0⟩ x k) := by
  intro k
  induction k with
  | zero => intro _; exact ⟨rfl, .inl ⟨by have := hg.2.2.2.2.2.1; show (0 : Int) < _; omega, rfl, rfl, rfl, rfl⟩⟩
  | succ k ih =>
    intro hk
    rw [Nat.succ_mul] at hk
    refine loud_step hg (stp_inv hg (by simp [Ls.Inv]) k).1 ?_ (ih (by omega))
    have hlen : ((x.drop (k * B)).take B).length = B := by simp; omega
    have := enr_ge (l := (x.drop (k * B)).take B) (H := g.high) (fun v hv => hx v (List.mem_of_mem_drop (List.mem_of_mem_take hv)))
    rw [hlen] at this
    rw [hB]
    exact this
theorem loud_first {g : Gt} {B : Nat} (hg : g.ok) (hB : g.block = B) (x : List Int) (hx : ∀ v ∈ x, g.high ≤ v * v) (hl : g.rise * g.block ≤ x.length) (r : Ls × List (Int × Int)) (hr : r = stp g B ⟨0, 0, (0 : Int) + x.length, 0, 0, 0⟩ x (x.length / B)) :
    ∃ t l, r.2 ++ (if r.1.state = 1 then [(r.1.begin_ * g.block, r.1.samples)] else []) = (0, t) :: l := by
  have hB1 := hg.1
  have hd := Nat.div_mul_le_self x.length B
  have hk := loud_all hg hB x hx (x.length / B) hd
  rw [← hr] at hk
  have hr2 : g.rise ≤ ((x.length / B : Nat) : Int) := by
    obtain ⟨R, hR⟩ := Int.eq_ofNat_of_zero_le (show 0 ≤ g.rise by have := hg.2.2.2.2.2.1; omega)
    rw [hR, hB] at hl
    have h2 : R * B ≤ x.length := by have : ((R * B : Nat) : Int) = (R : Int) * B := Int.natCast_mul ..; omega
    have := (Nat.le_div_iff_mul_le (show 0 < B by omega)).2 h2
    omega
  obtain ⟨_, hk⟩ := hk
  rcases hk with ⟨h1, _⟩ | ⟨h1, h2, h3, h4⟩ | ⟨h1, t, l, h2⟩
  · omega
  · rw [if_pos h2, h4, h3]; exact ⟨r.1.samples, [], by simp⟩
  · rw [h2]; exact ⟨t, l ++ _, rfl⟩
end Ear
