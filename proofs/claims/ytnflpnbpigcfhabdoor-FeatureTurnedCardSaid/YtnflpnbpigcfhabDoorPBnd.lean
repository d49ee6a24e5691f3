/- Plain law: bands of a spectrum -/
import Derived.Test.YtnflpnbpigcfhabDoorMc
import Derived.Test.YtnflpnbpigcfhabDoorMa
namespace Ear

/-- an edge is right -/
def edgAt (e : List Int) (n i : Nat) : Bool := decide (0 ≤ e[i]?.getD 0) && decide (e[i]?.getD 0 ≤ n) && (decide (i = 0) || decide (e[i - 1]?.getD 0 < e[i]?.getD 0))
/-- edges of a spectrum of n numbers -/
def edgOk (e : List Int) (n : Nat) : Bool := (List.range e.length).all (edgAt e n) && decide (2 ≤ e.length)
theorem edgAt_iff {e : List Int} {n i : Nat} : edgAt e n i = true ↔ 0 ≤ e[i]?.getD 0 ∧ e[i]?.getD 0 ≤ n ∧ (i = 0 ∨ e[i - 1]?.getD 0 < e[i]?.getD 0) := by
  simp [edgAt, and_assoc]
theorem edg_upto_succ {p : Nat → Bool} {k : Nat} (h : (List.range k).all p = true) (hx : p k = true) : (List.range (k + 1)).all p = true := by
  rw [List.range_succ, List.all_append, h]; simp [hx]
theorem edg_false_at {p : Nat → Bool} {n k : Nat} (hk : k < n) (hx : p k = false) : (List.range n).all p = false := by
  rw [List.all_eq_false]
  exact ⟨k, List.mem_range.2 hk, by simp [hx]⟩
/-- edges -/
structure Edg (e : List Int) (n : Nat) : Prop where
  two : 2 ≤ e.length
  inn : ∀ i, i < e.length → 0 ≤ e[i]?.getD 0 ∧ e[i]?.getD 0 ≤ n
  up : ∀ i, i + 1 < e.length → e[i]?.getD 0 < e[i + 1]?.getD 0
theorem edg_of {e : List Int} {n : Nat} (h : edgOk e n = true) : Edg e n := by
  simp only [edgOk, Bool.and_eq_true, decide_eq_true_eq, List.all_eq_true, List.mem_range] at h
  refine ⟨h.2, fun i hi => ?_, fun i hi => ?_⟩
  · have := edgAt_iff.1 (h.1 i hi); omega
  · have := edgAt_iff.1 (h.1 (i + 1) hi)
    have h3 := this.2.2
    rw [Nat.add_sub_cancel] at h3
    omega
/-- what lies between two places -/
def betw (s : List Int) (a b : Int) : List Int := (s.drop a.toNat).take (b.toNat - a.toNat)
theorem betw_mem {s : List Int} {a b x : Int} (h : x ∈ betw s a b) : x ∈ s := List.mem_of_mem_drop (List.mem_of_mem_take h)
theorem betw_len {s : List Int} {a b : Int} (h2 : a ≤ b) (h3 : b ≤ s.length) : (betw s a b).length = b.toNat - a.toNat := by
  rw [betw, List.length_take, List.length_drop]; omega
theorem betw_join (s : List Int) {a b c : Int} (h2 : a ≤ b) (h3 : b ≤ c) : betw s a b ++ betw s b c = betw s a c := by
  unfold betw
  have e1 : b.toNat = a.toNat + (b.toNat - a.toNat) := by omega
  have e2 : c.toNat - a.toNat = (b.toNat - a.toNat) + (c.toNat - b.toNat) := by omega
  rw [e2, List.take_add, List.drop_drop, ← e1]
/-- a band -/
def bndAt (s e : List Int) (b : Nat) : Int := enr (betw s (e[b]?.getD 0) (e[b + 1]?.getD 0))
def bndL (s e : List Int) : List Int := (List.range (e.length - 1)).map (bndAt s e)
theorem bndL_length (s e : List Int) : (bndL s e).length = e.length - 1 := by simp [bndL]
theorem bndL_get {s e : List Int} {b : Nat} (h : b < e.length - 1) : (bndL s e)[b]?.getD 0 = bndAt s e b := by
  rw [List.getElem?_eq_getElem (by rw [bndL_length]; exact h)]
  simp [bndL]
/-- the sum of the first bands -/
def bndS (s e : List Int) : Nat → Int
  | 0 => 0
  | k + 1 => bndS s e k + bndAt s e k
theorem bndS_is {s e : List Int} (h : Edg e s.length) : ∀ k, k < e.length → bndS s e k = enr (betw s (e[0]?.getD 0) (e[k]?.getD 0)) ∧ e[0]?.getD 0 ≤ e[k]?.getD 0 := by
  intro k
  induction k with
  | zero => intro _; exact ⟨by simp [bndS, betw, enr], Int.le_refl _⟩
  | succ k ih =>
    intro hk
    obtain ⟨h1, h2⟩ := ih (by omega)
    have h3 := h.up k hk
    have h0 := h.inn 0 (by omega)
    refine ⟨?_, by omega⟩
    rw [bndS, h1, bndAt, ← enr_append, betw_join s h2 (by omega)]
theorem bnd_sum {s e : List Int} (h : Edg e s.length) : bndL s [e[0]?.getD 0, e[e.length - 1]?.getD 0] = [bndS s e (e.length - 1)] := by
  have h2 := h.two
  rw [(bndS_is h (e.length - 1) (by omega)).1]
  rfl
theorem edg_pair {s e : List Int} (h : Edg e s.length) : edgOk [e[0]?.getD 0, e[e.length - 1]?.getD 0] s.length = true := by
  have h2 := h.two
  have key : ∀ k, k < e.length → 0 < k → e[0]?.getD 0 < e[k]?.getD 0 := by
    intro k
    induction k with
    | zero => intro _ h; omega
    | succ k ih =>
      intro hk _
      have h3 := h.up k hk
      by_cases h0 : k = 0
      · subst h0; exact h3
      · have := ih (by omega) (by omega); omega
  have h3 := key (e.length - 1) (by omega) (by omega)
  have h4 := h.inn 0 (by omega)
  have h5 := h.inn (e.length - 1) (by omega)
  generalize e[0]?.getD 0 = x at *
  generalize e[e.length - 1]?.getD 0 = y at *
  simp [edgOk, edgAt, List.range_succ]
  omega
theorem bnd_bd {s e : List Int} (hs : allR (-16777216) 16777216 s = true) (hl : s.length ≤ 64) (b : Nat) : 0 ≤ bndAt s e b ∧ bndAt s e b ≤ 18014398509481984 := by
  have h := enr_bd (l := betw s (e[b]?.getD 0) (e[b + 1]?.getD 0)) (B := 16777216) (fun x hx => by have := allR_mem hs (betw_mem hx); omega)
  have h2 : (betw s (e[b]?.getD 0) (e[b + 1]?.getD 0)).length ≤ 64 := by
    rw [betw, List.length_take, List.length_drop]; omega
  unfold bndAt
  generalize enr (betw s (e[b]?.getD 0) (e[b + 1]?.getD 0)) = z at *
  generalize (betw s (e[b]?.getD 0) (e[b + 1]?.getD 0)).length = m at *
  omega
theorem bndS_bd {s e : List Int} (hs : allR (-16777216) 16777216 s = true) (hl : s.length ≤ 64) : ∀ k : Nat, 0 ≤ bndS s e k ∧ bndS s e k ≤ k * 18014398509481984 := by
  intro k
  induction k with
  | zero => simp [bndS]
  | succ k ih =>
    have := bnd_bd (e := e) hs hl k
    simp only [bndS]
    omega
/-- the post of Bands -/
def bndR (s e : List Int) : Int × List Int := if s.length ≤ 64 ∧ allR (-16777216) 16777216 s = true ∧ edgOk e s.length = true then (0, bndL s e) else (2, [])
end Ear
