/- Plain law: seeds -/
import Derived.Test.YtfapmghhmkekaaaDoorMc
namespace Ear

/-- the farthest of the first i vectors: its place, and its distance -/
def faK (vs out : List (List Int)) : Nat → Int × Int
  | 0 => (-1, 0)
  | i + 1 => if (faK vs out i).2 < (nr (vs[i]?.getD []) out).2 then ((i : Int), (nr (vs[i]?.getD []) out).2) else faK vs out i
def fa (vs out : List (List Int)) : Int × Int := faK vs out vs.length
theorem faK_yes {vs out : List (List Int)} {i : Nat} (h : (faK vs out i).2 < (nr (vs[i]?.getD []) out).2) : faK vs out (i + 1) = ((i : Int), (nr (vs[i]?.getD []) out).2) := if_pos h
theorem faK_no {vs out : List (List Int)} {i : Nat} (h : ¬ (faK vs out i).2 < (nr (vs[i]?.getD []) out).2) : faK vs out (i + 1) = faK vs out i := if_neg h
theorem faK_at (vs out : List (List Int)) (i : Nat) : ((faK vs out i).1 = -1 ∧ (faK vs out i).2 = 0) ∨ ∃ a : Nat, a < i ∧ (faK vs out i).1 = a ∧ (faK vs out i).2 = (nr (vs[a]?.getD []) out).2 ∧ 0 < (faK vs out i).2 := by
  induction i with
  | zero => exact .inl ⟨rfl, rfl⟩
  | succ i ih =>
    by_cases h : (faK vs out i).2 < (nr (vs[i]?.getD []) out).2
    · have h0 : 0 ≤ (faK vs out i).2 := by
        rcases ih with ⟨_, h2⟩ | ⟨a, _, _, _, h2⟩ <;> omega
      rw [faK_yes h]
      exact .inr ⟨i, by omega, rfl, rfl, by simp only []; omega⟩
    · rw [faK_no h]
      rcases ih with h1 | ⟨a, h1, h2⟩
      · exact .inl h1
      · exact .inr ⟨a, by omega, h2⟩
theorem faK_ge (vs out : List (List Int)) {j : Nat} : ∀ i, j < i → (nr (vs[j]?.getD []) out).2 ≤ (faK vs out i).2 := by
  intro i
  induction i with
  | zero => intro h; omega
  | succ i ih =>
    intro hj
    by_cases h : (faK vs out i).2 < (nr (vs[i]?.getD []) out).2
    · rw [faK_yes h]
      by_cases e : j = i
      · subst e; exact Int.le_refl _
      · have := ih (by omega); simp only []; omega
    · rw [faK_no h]
      by_cases e : j = i
      · subst e; omega
      · exact ih (by omega)
/-- the seeds behind some -/
def sdL (vs : List (List Int)) : Nat → List (List Int) → List (List Int)
  | 0, out => out
  | f + 1, out => if (fa vs out).1 < 0 then out else sdL vs f (out ++ [vs[(fa vs out).1.toNat]?.getD []])
theorem sdL_stop {vs out : List (List Int)} (h : (fa vs out).1 < 0) (f : Nat) : sdL vs f out = out := by
  cases f with
  | zero => rfl
  | succ f => exact if_pos h
theorem sdL_go {vs out : List (List Int)} {a : Nat} (h : (fa vs out).1 = a) (f : Nat) : sdL vs (f + 1) out = sdL vs f (out ++ [vs[a]?.getD []]) := by
  have : ¬ (fa vs out).1 < 0 := by omega
  show (if (fa vs out).1 < 0 then out else sdL vs f (out ++ [vs[(fa vs out).1.toNat]?.getD []])) = _
  rw [if_neg this, h, Int.toNat_natCast]
theorem dst_self (x : List Int) : dst x x = 0 := by
  have key : ∀ k, dsK x x k = 0 := fun k => by
    induction k with
    | zero => rfl
    | succ k ih => simp only [dsK, ih, Int.sub_self]; rfl
  exact key _
/-- seeds: vectors of the list, no two the same -/
structure Sd (vs S : List (List Int)) : Prop where
  pos : 0 < S.length
  mem : ∀ x ∈ S, x ∈ vs
  dif : ∀ i j, j < i → i < S.length → S[i]?.getD [] ≠ S[j]?.getD []
theorem Sd.one {vs : List (List Int)} (h : 0 < vs.length) : Sd vs [vs[0]?.getD []] := by
  refine ⟨by simp, fun x hx => ?_, fun i j h1 h2 => ?_⟩
  · rw [List.mem_singleton] at hx
    subst hx
    rw [List.getElem?_eq_getElem h]; exact List.getElem_mem h
  · simp at h2; omega
theorem Sd.far {vs S : List (List Int)} {a : Nat} (e : (fa vs S).1 = a) : a < vs.length ∧ (fa vs S).2 = (nr (vs[a]?.getD []) S).2 ∧ 0 < (nr (vs[a]?.getD []) S).2 := by
  rcases faK_at vs S vs.length with ⟨h1, _⟩ | ⟨b, h1, h2, h3, h4⟩
  · unfold fa at e; omega
  · have : a = b := by unfold fa at e; omega
    subst this
    exact ⟨h1, h3, by rw [← h3]; exact h4⟩
theorem Sd.snoc {vs S : List (List Int)} (h : Sd vs S) {a : Nat} (e : (fa vs S).1 = a) : Sd vs (S ++ [vs[a]?.getD []]) := by
  obtain ⟨h1, _, h3⟩ := Sd.far e
  refine ⟨by simp, fun x hx => ?_, fun i j hj hi => ?_⟩
  · rcases List.mem_append.1 hx with hx | hx
    · exact h.mem x hx
    · rw [List.mem_singleton] at hx
      subst hx
      rw [List.getElem?_eq_getElem h1]; exact List.getElem_mem h1
  · rw [List.length_append, List.length_singleton] at hi
    have ej : (S ++ [vs[a]?.getD []])[j]? = S[j]? := List.getElem?_append_left (by omega)
    rw [ej]
    by_cases hs : i < S.length
    · rw [List.getElem?_append_left hs]; exact h.dif i j hj hs
    · have : i = S.length := by omega
      subst this
      rw [List.getElem?_append_right (Nat.le_refl _), Nat.sub_self]
      simp only [List.getElem?_cons_zero, Option.getD_some]
      intro he
      have h4 := nrK_le (vs[a]?.getD []) S (i := j) S.length hj
      rw [he, dst_self] at h4
      rw [he] at h3
      unfold nr at h3
      omega
theorem Sd.all {vs : List (List Int)} : ∀ f S, Sd vs S → Sd vs (sdL vs f S) := by
  intro f
  induction f with
  | zero => intro S h; exact h
  | succ f ih =>
    intro S h
    by_cases h0 : (fa vs S).1 < 0
    · rw [sdL_stop h0]; exact h
    · obtain ⟨a, ha⟩ : ∃ a : Nat, (fa vs S).1 = a := ⟨(fa vs S).1.toNat, by omega⟩
      rw [sdL_go ha]; exact ih _ (h.snoc ha)
theorem sdL_len {vs : List (List Int)} : ∀ f S, (sdL vs f S).length ≤ S.length + f := by
  intro f
  induction f with
  | zero => intro S; exact Nat.le_refl _
  | succ f ih =>
    intro S
    by_cases h0 : (fa vs S).1 < 0
    · rw [sdL_stop h0]; omega
    · obtain ⟨a, ha⟩ : ∃ a : Nat, (fa vs S).1 = a := ⟨(fa vs S).1.toNat, by omega⟩
      rw [sdL_go ha]
      have := ih (S ++ [vs[a]?.getD []])
      simp at this; omega
theorem sdL_end {vs : List (List Int)} : ∀ f S, (sdL vs f S).length ≠ S.length + f → (fa vs (sdL vs f S)).1 < 0 := by
  intro f
  induction f with
  | zero => intro S h; exact absurd rfl h
  | succ f ih =>
    intro S h
    by_cases h0 : (fa vs S).1 < 0
    · rw [sdL_stop h0]; exact h0
    · obtain ⟨a, ha⟩ : ∃ a : Nat, (fa vs S).1 = a := ⟨(fa vs S).1.toNat, by omega⟩
      rw [sdL_go ha] at h ⊢
      exact ih _ (by simp; omega)
/-- seeds are a codebook that fits -/
theorem Sd.fit {vs S : List (List Int)} (h : Sd vs S) (hv : vecOk vs = true) (h256 : S.length ≤ 256) : Fit vs S := by
  have hl : len0 S = len0 vs := by
    cases S with
    | nil => exact absurd h.pos (by simp)
    | cons x S =>
      exact (vecOk_mem hv (h.mem x (List.mem_cons_self ..))).1
  refine ⟨hv, bookOk_iff.2 ⟨h.pos, h256, ?_⟩, .inr hl.symm⟩
  refine List.all_eq_true.2 fun x hx => ?_
  have := vecOk_mem hv (h.mem x hx)
  rw [hl]
  exact okV_iff.2 this
/-- what all vectors are near to costs nothing -/
theorem cost_zero {vs S : List (List Int)} (h : (fa vs S).1 < 0) : costL vs S = 0 := by
  have h0 : (fa vs S).2 = 0 := by
    rcases faK_at vs S vs.length with ⟨_, h2⟩ | ⟨a, _, h2, _⟩
    · exact h2
    · unfold fa at h; omega
  have key : ∀ t, t ≤ vs.length → costK vs S t = 0 := by
    intro t
    induction t with
    | zero => intro _; rfl
    | succ t ih =>
      intro ht
      have h1 := faK_ge vs S (j := t) vs.length (by omega)
      have h2 := nrK_bd (vs[t]?.getD []) S S.length
      unfold fa at h0
      simp only [costK, ih (by omega)]
      unfold nr at *
      omega
  exact key _ (Nat.le_refl _)
/-- the post of Seeds -/
def seeR (vs : List (List Int)) (k : Int) : Int × List (List Int) := if vecR vs = 0 then (if vs = [] ∨ k < 1 ∨ 256 < k then (2, []) else (0, sdL vs (k.toNat - 1) [vs[0]?.getD []])) else (vecR vs, [])
end Ear
