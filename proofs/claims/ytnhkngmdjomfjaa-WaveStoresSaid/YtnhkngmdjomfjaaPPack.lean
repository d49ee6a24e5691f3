/- Plain: the bytes of a recording. -/
import Derived.Test.YtnhkngmdjomfjaaPWave
namespace Ear
/-- k bytes of a number, the least significant one first -/
def le : Nat → Int → List Int
  | 0, _ => []
  | k + 1, n => n % 256 :: le k (n / 256)
theorem le_len : ∀ (k : Nat) (n : Int), (le k n).length = k := by
  intro k
  induction k with
  | zero => intro n; rfl
  | succ k ih => intro n; simp [le, ih]
theorem le_mem : ∀ (k : Nat) (n : Int) (x : Int), x ∈ le k n → 0 ≤ x ∧ x ≤ 255 := by
  intro k
  induction k with
  | zero => intro n x h; simp [le] at h
  | succ k ih =>
    intro n x h
    simp only [le, List.mem_cons] at h
    rcases h with rfl | h
    · omega
    · exact ih _ x h
/-- one more byte -/
theorem le_succ (k : Nat) : ∀ n : Int, le (k + 1) n = le k n ++ [n / 256 ^ k % 256] := by
  induction k with
  | zero => intro n; simp [le]
  | succ k ih =>
    intro n
    rw [le, ih]
    simp only [le, List.cons_append]
    rw [Int.ediv_ediv_of_nonneg (by omega), show (256 : Int) * 256 ^ k = 256 ^ (k + 1) by rw [Int.pow_succ, Int.mul_comm]]
/-- the number of some bytes -/
def ge : List Int → Int
  | [] => 0
  | x :: l => x + 256 * ge l
theorem ge_bd : ∀ l : List Int, (∀ x ∈ l, 0 ≤ x ∧ x ≤ 255) → 0 ≤ ge l ∧ ge l < 256 ^ l.length := by
  intro l
  induction l with
  | nil => intro _; simp [ge]
  | cons x l ih =>
    intro h
    have h1 := ih (fun y hy => h y (List.mem_cons_of_mem _ hy))
    have h2 := h x (List.mem_cons_self ..)
    simp only [ge, List.length_cons, Int.pow_succ]
    omega
theorem ge_le : ∀ (k : Nat) (n : Int), 0 ≤ n → n < 256 ^ k → ge (le k n) = n := by
  intro k
  induction k with
  | zero => intro n h0 h1; simp at h1; simp [le, ge]; omega
  | succ k ih =>
    intro n h0 h1
    rw [Int.pow_succ] at h1
    simp only [le, ge]
    rw [ih (n / 256) (by omega) (by omega)]
    omega
theorem le_ge : ∀ (l : List Int), (∀ x ∈ l, 0 ≤ x ∧ x ≤ 255) → le l.length (ge l) = l := by
  intro l
  induction l with
  | nil => intro _; rfl
  | cons x l ih =>
    intro h
    have h2 := h x (List.mem_cons_self ..)
    simp only [List.length_cons, le, ge]
    rw [show (x + 256 * ge l) % 256 = x by omega, show (x + 256 * ge l) / 256 = ge l by omega, ih (fun y hy => h y (List.mem_cons_of_mem _ hy))]
theorem ge_snoc : ∀ (l : List Int) (x : Int), ge (l ++ [x]) = ge l + x * 256 ^ l.length := by
  intro l
  induction l with
  | nil => intro x; simp [ge]
  | cons y l ih =>
    intro x
    simp only [List.cons_append, ge, ih, List.length_cons, Int.pow_succ]
    rw [Int.mul_add, Int.mul_comm (256 ^ l.length) 256, ← Int.mul_assoc x 256, Int.mul_comm x 256, Int.mul_assoc 256 x]
    omega
/-- one step of the sum of bytes -/
def sst (c x : Int) : Int := (65599 * c + x + 1) % 4294967296
/-- the sum of bytes, from a number on -/
def smF (c : Int) (l : List Int) : Int := l.foldl sst c
theorem smF_bd (c : Int) (l : List Int) (h : 0 ≤ c ∧ c < 4294967296) : 0 ≤ smF c l ∧ smF c l < 4294967296 := by
  unfold smF
  induction l generalizing c with
  | nil => exact h
  | cons x l ih => exact ih (sst c x) (by unfold sst; omega)
theorem smF_append (c : Int) (a b : List Int) : smF c (a ++ b) = smF (smF c a) b := by unfold smF; rw [List.foldl_append]
theorem cop : Nat.gcd 4294967296 65599 = 1 := by rfl
theorem sst_inj {c d x : Int} (hc : 0 ≤ c ∧ c < 4294967296) (hd : 0 ≤ d ∧ d < 4294967296) (h : (65599 * c + x + 1) % 4294967296 = (65599 * d + x + 1) % 4294967296) : c = d := by
  have h2 := Int.emod_eq_emod_iff_emod_sub_eq_zero.1 h
  have h3 : (65599 * c + x + 1) - (65599 * d + x + 1) = 65599 * (c - d) := by rw [Int.mul_sub]; omega
  rw [h3] at h2
  have h4 : ((4294967296 : Nat) : Int) ∣ ((65599 : Nat) : Int) * (c - d) := Int.dvd_of_emod_eq_zero h2
  rw [← Int.natAbs_dvd_natAbs, Int.natAbs_mul, Int.natAbs_natCast, Int.natAbs_natCast] at h4
  clear h h2 h3
  have h7 := Nat.Coprime.dvd_of_dvd_mul_left cop h4
  have h8 := Nat.eq_zero_of_dvd_of_lt h7 (by clear h4 h7; omega)
  clear h4 h7
  omega
theorem smF_inj {c d : Int} (hc : 0 ≤ c ∧ c < 4294967296) (hd : 0 ≤ d ∧ d < 4294967296) (l : List Int) (h : smF c l = smF d l) : c = d := by
  unfold smF at h
  induction l generalizing c d with
  | nil => exact h
  | cons x l ih =>
    have := ih (c := sst c x) (d := sst d x) (by unfold sst; omega) (by unfold sst; omega) h
    unfold sst at this
    exact sst_inj hc hd this
/-- the sum of bytes -/
def smB (l : List Int) : Int := smF 1 l
theorem smB_bd (l : List Int) : 0 ≤ smB l ∧ smB l < 4294967296 := smF_bd 1 l (by omega)
/-- no change of a single byte is overlooked -/
theorem smB_change (a b : List Int) {x y : Int} (hx : 0 ≤ x ∧ x ≤ 255) (hy : 0 ≤ y ∧ y ≤ 255) (hne : x ≠ y) : smB (a ++ x :: b) ≠ smB (a ++ y :: b) := by
  intro h
  unfold smB at h
  rw [smF_append, smF_append] at h
  have h1 := smF_bd 1 a (by omega)
  have := smF_inj (c := sst (smF 1 a) x) (d := sst (smF 1 a) y) (by unfold sst; omega) (by unfold sst; omega) b h
  unfold sst at this
  omega
/-- the bytes of samples -/
def smpB (l : List Int) : List Int := l.flatMap (fun v => le 2 (v % 65536))
theorem smpB_len (l : List Int) : (smpB l).length = 2 * l.length := by
  unfold smpB
  induction l with
  | nil => rfl
  | cons x l ih => rw [List.flatMap_cons, List.length_append, le_len, ih, List.length_cons]; omega
theorem smpB_snoc (l : List Int) (x : Int) : smpB (l ++ [x]) = smpB l ++ le 2 (x % 65536) := by unfold smpB; simp
/-- the first bytes: all but the samples and the sum -/
def headB (rate : Int) (n : Nat) : List Int := [69, 65, 82, 49] ++ le 4 rate ++ le 4 n
def bodyB (rate : Int) (l : List Int) : List Int := headB rate l.length ++ smpB l
/-- the bytes of a recording -/
def packB (rate : Int) (l : List Int) : List Int := bodyB rate l ++ le 4 (smB (bodyB rate l))
theorem headB_len (rate : Int) (n : Nat) : (headB rate n).length = 12 := by simp [headB, le_len]
theorem bodyB_len (rate : Int) (l : List Int) : (bodyB rate l).length = 12 + 2 * l.length := by simp [bodyB, headB_len, smpB_len]
theorem packB_len (rate : Int) (l : List Int) : (packB rate l).length = 16 + 2 * l.length := by simp [packB, bodyB_len, le_len]; omega
theorem bodyB_mem {rate : Int} {l : List Int} {x : Int} (h : x ∈ bodyB rate l) : 0 ≤ x ∧ x ≤ 255 := by
  simp only [bodyB, headB, List.mem_append] at h
  rcases h with ((h | h) | h) | h
  · simp at h; omega
  · exact le_mem _ _ _ h
  · exact le_mem _ _ _ h
  · simp only [smpB, List.mem_flatMap] at h
    obtain ⟨v, _, hv⟩ := h
    exact le_mem _ _ _ hv
theorem packB_mem {rate : Int} {l : List Int} {x : Int} (h : x ∈ packB rate l) : 0 ≤ x ∧ x ≤ 255 := by
  simp only [packB, List.mem_append] at h
  rcases h with h | h
  · exact bodyB_mem h
  · exact le_mem _ _ _ h
/-- a sample of its two bytes -/
def sgn (n : Int) : Int := if 32767 < n then n - 65536 else n
theorem sgn_mod {v : Int} (h1 : -32768 ≤ v) (h2 : v ≤ 32767) : sgn (v % 65536) = v := by unfold sgn; split <;> omega
theorem mod_sgn {n : Int} (h1 : 0 ≤ n) (h2 : n < 65536) : sgn n % 65536 = n ∧ -32768 ≤ sgn n ∧ sgn n ≤ 32767 := by unfold sgn; split <;> omega
/-- the samples of bytes: n of them -/
def unB : Nat → List Int → List Int
  | 0, _ => []
  | n + 1, b => sgn (ge (b.take 2)) :: unB n (b.drop 2)
theorem unB_len : ∀ n b, (unB n b).length = n := by
  intro n
  induction n with
  | zero => intro b; rfl
  | succ n ih => intro b; simp [unB, ih]
theorem unB_snoc : ∀ (n : Nat) (b : List Int), unB (n + 1) b = unB n b ++ [sgn (ge ((b.drop (2 * n)).take 2))] := by
  intro n
  induction n with
  | zero => intro b; simp [unB]
  | succ n ih =>
    intro b
    rw [unB, ih]
    simp only [unB, List.cons_append, List.drop_drop]
    rw [show 2 + 2 * n = 2 * (n + 1) by omega]
theorem smpB_unB : ∀ (n : Nat) (b : List Int), (∀ x ∈ b, 0 ≤ x ∧ x ≤ 255) → 2 * n ≤ b.length → smpB (unB n b) = b.take (2 * n) := by
  intro n
  induction n with
  | zero => intro b _ _; simp [unB, smpB]
  | succ n ih =>
    intro b hb hl
    have hm : ∀ x ∈ b.take 2, 0 ≤ x ∧ x ≤ 255 := fun x hx => hb x (List.mem_of_mem_take hx)
    have h2 : (b.take 2).length = 2 := by simp; omega
    have hg := ge_bd _ hm
    rw [h2] at hg
    have e1 := mod_sgn hg.1 (by simpa using hg.2)
    have e2 := le_ge _ hm
    rw [h2] at e2
    simp only [unB, smpB, List.flatMap_cons]
    rw [e1.1, e2]
    have := ih (b.drop 2) (fun x hx => hb x (List.mem_of_mem_drop hx)) (by simp; omega)
    unfold smpB at this
    rw [this, show 2 * (n + 1) = 2 + 2 * n by omega, List.take_add]
theorem unB_smpB : ∀ (l : List Int) (r : List Int), (∀ x ∈ l, -32768 ≤ x ∧ x ≤ 32767) → unB l.length (smpB l ++ r) = l := by
  intro l
  induction l with
  | nil => intro r _; rfl
  | cons x l ih =>
    intro r h
    have hx := h x (List.mem_cons_self ..)
    have e1 : smpB (x :: l) ++ r = le 2 (x % 65536) ++ (smpB l ++ r) := by unfold smpB; rw [List.flatMap_cons, List.append_assoc]
    have e2 : (le 2 (x % 65536)).length = 2 := le_len _ _
    rw [e1]
    simp only [List.length_cons, unB]
    rw [List.take_left' e2, List.drop_left' e2, ih _ (fun y hy => h y (List.mem_cons_of_mem _ hy)), ge_le 2 _ (by omega) (by simp; omega), sgn_mod hx.1 hx.2]
theorem unB_smp (n : Nat) (b : List Int) (hb : ∀ x ∈ b, 0 ≤ x ∧ x ≤ 255) : smp (unB n b) = true := by
  refine allR_of ?_
  induction n generalizing b with
  | zero => intro x hx; simp [unB] at hx
  | succ n ih =>
    intro x hx
    simp only [unB, List.mem_cons] at hx
    rcases hx with rfl | hx
    · have hm : ∀ x ∈ b.take 2, 0 ≤ x ∧ x ≤ 255 := fun x hx => hb x (List.mem_of_mem_take hx)
      have hg := ge_bd _ hm
      have h2 : (b.take 2).length ≤ 2 := by simp; omega
      have h3 : (256 : Int) ^ (b.take 2).length ≤ 256 ^ 2 := by
        rcases (show (b.take 2).length = 0 ∨ (b.take 2).length = 1 ∨ (b.take 2).length = 2 by omega) with h | h | h <;> rw [h] <;> decide
      have h4 : (256 : Int) ^ 2 = 65536 := by decide
      rw [h4] at h3
      have := mod_sgn hg.1 (Int.lt_of_lt_of_le hg.2 h3)
      exact this.2
    · exact ih (b.drop 2) (fun y hy => hb y (List.mem_of_mem_drop hy)) x hx
/-- the numbers at 4 and at 8 -/
def rateB (b : List Int) : Int := ge ((b.drop 4).take 4)
def cntB (b : List Int) : Int := ge ((b.drop 8).take 4)
/-- these are the bytes of a recording -/
def okB (b : List Int) : Bool := decide (16 ≤ b.length ∧ b.take 4 = [69, 65, 82, 49] ∧ 1 ≤ rateB b ∧ rateB b ≤ 192000 ∧ cntB b ≤ 200000 ∧ (b.length : Int) = 16 + 2 * cntB b ∧ ge (b.drop (b.length - 4)) = smB (b.take (b.length - 4)))
theorem parts4 (b : List Int) (h : 16 ≤ b.length) : b = b.take 4 ++ ((b.drop 4).take 4 ++ ((b.drop 8).take 4 ++ ((b.drop 12).take (b.length - 16) ++ b.drop (b.length - 4)))) := by
  have e1 : (b.drop 12).take (b.length - 16) ++ b.drop (b.length - 4) = b.drop 12 := by
    have := List.take_append_drop (b.length - 16) (b.drop 12)
    rw [List.drop_drop, show 12 + (b.length - 16) = b.length - 4 by omega] at this
    exact this
  have e2 : (b.drop 8).take 4 ++ b.drop 12 = b.drop 8 := by
    have := List.take_append_drop 4 (b.drop 8); rwa [List.drop_drop] at this
  have e3 : (b.drop 4).take 4 ++ b.drop 8 = b.drop 4 := by
    have := List.take_append_drop 4 (b.drop 4); rwa [List.drop_drop] at this
  rw [e1, e2, e3, List.take_append_drop]
theorem okB_pack {b : List Int} (hb : ∀ x ∈ b, 0 ≤ x ∧ x ≤ 255) (h : okB b = true) : packB (rateB b) (unB (b.length / 2 - 8) (b.drop 12)) = b := by
  unfold okB at h
  obtain ⟨h1, h2, h3, h4, h5, h6, h7⟩ := of_decide_eq_true h
  have m4 : ∀ k, ((b.drop k).take 4).length = 4 ∨ b.length < k + 4 := fun k => by
    by_cases hk : b.length < k + 4
    · exact .inr hk
    · left; simp; omega
  have l4 : ((b.drop 4).take 4).length = 4 := by simp; omega
  have l8 : ((b.drop 8).take 4).length = 4 := by simp; omega
  have lL : (b.drop (b.length - 4)).length = 4 := by simp; omega
  have e4 : le 4 (rateB b) = (b.drop 4).take 4 := by have := le_ge ((b.drop 4).take 4) (fun x hx => hb x (List.mem_of_mem_drop (List.mem_of_mem_take hx))); rwa [l4] at this
  have e8 : le 4 (cntB b) = (b.drop 8).take 4 := by have := le_ge ((b.drop 8).take 4) (fun x hx => hb x (List.mem_of_mem_drop (List.mem_of_mem_take hx))); rwa [l8] at this
  have eL : le 4 (ge (b.drop (b.length - 4))) = b.drop (b.length - 4) := by have := le_ge (b.drop (b.length - 4)) (fun x hx => hb x (List.mem_of_mem_drop hx)); rwa [lL] at this
  have hn : ((b.length / 2 - 8 : Nat) : Int) = cntB b := by omega
  have hn2 : 2 * (b.length / 2 - 8) = b.length - 16 := by omega
  have eS : smpB (unB (b.length / 2 - 8) (b.drop 12)) = (b.drop 12).take (b.length - 16) := by
    rw [smpB_unB _ _ (fun x hx => hb x (List.mem_of_mem_drop hx)) (by simp; omega), hn2]
  have hbody : bodyB (rateB b) (unB (b.length / 2 - 8) (b.drop 12)) = b.take (b.length - 4) := by
    unfold bodyB headB
    rw [unB_len, hn, e4, e8, eS, ← h2]
    have hp := parts4 b h1
    have : b.take (b.length - 4) = (b.take 4 ++ ((b.drop 4).take 4 ++ ((b.drop 8).take 4 ++ (b.drop 12).take (b.length - 16)))) := by
      have h9 : b = (b.take 4 ++ ((b.drop 4).take 4 ++ ((b.drop 8).take 4 ++ (b.drop 12).take (b.length - 16)))) ++ b.drop (b.length - 4) := by
        simpa only [List.append_assoc] using hp
      generalize hX : b.take 4 ++ ((b.drop 4).take 4 ++ ((b.drop 8).take 4 ++ (b.drop 12).take (b.length - 16))) = X at *
      have hl : X.length = b.length - 4 := by
        have := congrArg List.length h9
        rw [List.length_append, lL] at this
        omega
      have h10 := List.take_left' (l₂ := b.drop (b.length - 4)) hl
      rw [← h9] at h10
      exact h10
    rw [this]
    simp only [List.append_assoc]
  unfold packB
  rw [hbody, ← h7, eL]
  exact List.take_append_drop _ _
theorem pack_parts (rate : Int) (l : List Int) : (packB rate l).take 4 = [69, 65, 82, 49] ∧ ((packB rate l).drop 4).take 4 = le 4 rate ∧ ((packB rate l).drop 8).take 4 = le 4 l.length ∧ (packB rate l).drop 12 = smpB l ++ le 4 (smB (bodyB rate l)) ∧
    (packB rate l).take ((packB rate l).length - 4) = bodyB rate l ∧ (packB rate l).drop ((packB rate l).length - 4) = le 4 (smB (bodyB rate l)) := by
  have e0 : packB rate l = [69, 65, 82, 49] ++ (le 4 rate ++ (le 4 l.length ++ (smpB l ++ le 4 (smB (bodyB rate l))))) := by
    unfold packB; rw [bodyB, headB]; simp only [List.append_assoc]
  have d4 : (packB rate l).drop 4 = le 4 rate ++ (le 4 l.length ++ (smpB l ++ le 4 (smB (bodyB rate l)))) := by rw [e0]; rfl
  have d8 : (packB rate l).drop 8 = le 4 l.length ++ (smpB l ++ le 4 (smB (bodyB rate l))) := by
    have := congrArg (List.drop 4) d4
    rw [List.drop_drop, List.drop_left' (le_len 4 rate)] at this
    exact this
  have d12 : (packB rate l).drop 12 = smpB l ++ le 4 (smB (bodyB rate l)) := by
    have := congrArg (List.drop 4) d8
    rw [List.drop_drop, List.drop_left' (le_len 4 _)] at this
    exact this
  have hb : (packB rate l).length - 4 = (bodyB rate l).length := by rw [packB_len, bodyB_len]; omega
  refine ⟨by rw [e0]; rfl, by rw [d4, List.take_left' (le_len 4 rate)], by rw [d8, List.take_left' (le_len 4 _)], d12, ?_, ?_⟩
  · rw [hb]; unfold packB; rw [List.take_left' rfl]
  · rw [hb]; unfold packB; rw [List.drop_left' rfl]
theorem pack_ok {rate : Int} {l : List Int} (h : chk rate l = 0) : okB (packB rate l) = true ∧ rateB (packB rate l) = rate ∧ cntB (packB rate l) = l.length ∧ unB l.length ((packB rate l).drop 12) = l := by
  obtain ⟨h1, h2, h3, h4⟩ := chk_ok.1 h
  obtain ⟨p1, p2, p3, p4, p5, p6⟩ := pack_parts rate l
  have hs := smB_bd (bodyB rate l)
  have r1 : rateB (packB rate l) = rate := by unfold rateB; rw [p2, ge_le 4 _ (by omega) (by simp; omega)]
  have r2 : cntB (packB rate l) = l.length := by unfold cntB; rw [p3, ge_le 4 _ (by omega) (by simp; omega)]
  refine ⟨?_, r1, r2, by rw [p4, unB_smpB _ _ (fun x hx => allR_mem h4 hx)]⟩
  unfold okB
  refine decide_eq_true ⟨by rw [packB_len]; omega, p1, by omega, by omega, by omega, by rw [packB_len, r2]; omega, ?_⟩
  rw [p5, p6, ge_le 4 _ hs.1 (by simp; omega)]
theorem split_at {b : List Int} {k : Nat} (h : k < b.length) : b = b.take k ++ b[k] :: b.drop (k + 1) := by
  rw [← List.drop_eq_getElem_cons h, List.take_append_drop]
theorem set_at {b : List Int} {k : Nat} (h : k < b.length) (y : Int) : b.set k y = b.take k ++ y :: b.drop (k + 1) := by
  rw [List.set_eq_take_append_cons_drop, if_pos h]
theorem ok_sum {b : List Int} (h : okB b = true) : 16 ≤ b.length ∧ ge (b.drop (b.length - 4)) = smB (b.take (b.length - 4)) := by
  unfold okB at h
  obtain ⟨h1, h2, h3, h4, h5, h6, h7⟩ := of_decide_eq_true h
  exact ⟨h1, h7⟩
/-- no change of a single byte is overlooked -/
theorem ok_change {b : List Int} (hb : ∀ x ∈ b, 0 ≤ x ∧ x ≤ 255) (h : okB b = true) {k : Nat} (hk : k < b.length) {y : Int} (hy : 0 ≤ y ∧ y ≤ 255) (hne : y ≠ b[k]) : okB (b.set k y) = false := by
  cases ho : okB (b.set k y) with
  | false => rfl
  | true =>
    exfalso
    obtain ⟨h1, h2⟩ := ok_sum h
    obtain ⟨_, h4⟩ := ok_sum ho
    rw [List.length_set] at h4
    by_cases hlt : k < b.length - 4
    · rw [List.drop_set, if_pos hlt, h2, List.take_set] at h4
      have hk2 : k < (b.take (b.length - 4)).length := by simp; omega
      have e1 := split_at hk2
      rw [set_at hk2 y] at h4
      have hx : (b.take (b.length - 4))[k] = b[k] := by simp
      rw [hx] at e1
      have := smB_change ((b.take (b.length - 4)).take k) ((b.take (b.length - 4)).drop (k + 1)) (hb _ (List.getElem_mem hk)) hy (Ne.symm hne)
      rw [← e1] at this
      exact this h4
    · have e1 : (b.set k y).take (b.length - 4) = b.take (b.length - 4) := by
        rw [List.take_set, List.set_eq_of_length_le (by simp; omega)]
      rw [e1, ← h2, List.drop_set, if_neg hlt] at h4
      have l1 : (b.drop (b.length - 4)).length = 4 := by simp; omega
      have m1 : ∀ x ∈ b.drop (b.length - 4), 0 ≤ x ∧ x ≤ 255 := fun x hx => hb x (List.mem_of_mem_drop hx)
      have m2 : ∀ x ∈ (b.drop (b.length - 4)).set (k - (b.length - 4)) y, 0 ≤ x ∧ x ≤ 255 := fun x hx => by
        rcases List.mem_or_eq_of_mem_set hx with h | h
        · exact m1 x h
        · rw [h]; exact hy
      have g1 := le_ge _ m1
      have g2 := le_ge _ m2
      rw [List.length_set, h4, g1] at g2
      have := congrArg (fun l => l[k - (b.length - 4)]?) g2
      rw [List.getElem?_set_self (by omega), List.getElem?_drop, show b.length - 4 + (k - (b.length - 4)) = k by omega, List.getElem?_eq_getElem hk] at this
      injection this with this
      exact hne this.symm
end Ear
