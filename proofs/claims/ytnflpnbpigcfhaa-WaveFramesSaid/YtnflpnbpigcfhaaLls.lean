/- lists of lists as they lie in memory -/
import Derived.Test.YtnflpnbpigcfhaaLed
namespace Go.Proofs.Ytnflpnbpigcfhaa
open Go.RowKit

/-- an inner list: its address, capacity and numbers -/
abbrev Inn := Option Addr × Nat × List Int
def InOk (w : World) (x : Inn) : Prop :=
  Lies w x.1 (ics x.2.2) ∧ (x.1 = none → x.2.1 = 0 ∧ x.2.2 = []) ∧ x.2.2.length ≤ 9223372036854775807 ∧ x.2.2.length ≤ x.2.1 ∧ (∀ y ∈ x.2.2, -9223372036854775808 ≤ y ∧ y ≤ 9223372036854775807)
/-- the same, and no longer than memory allows -/
def InOkS (w : World) (x : Inn) : Prop := InOk w x ∧ x.2.1 * 8 ≤ 140737488351232
/-- lists as cells -/
abbrev lcs (l : List Inn) : List Value := l.map fun x => Value.slice x.1 x.2.2.length x.2.1
theorem Lies.lat {w : World} {A : Option Addr} {l : List Inn} (h : Lies w A (lcs l)) {k : Nat} (hk : k < l.length) :
    ∃ b off, A = some ⟨b, off, none⟩ ∧ b < w.heap.size ∧ w.cell? ⟨b, off + k, none⟩ = some (.slice l[k].1 l[k].2.2.length l[k].2.1) := by
  obtain ⟨b, off, e, hb, hc⟩ := h (by simp; omega)
  refine ⟨b, off, e, hb, hc k _ ?_⟩
  simp [List.getElem?_eq_getElem hk]
theorem InOk.below {w w' : World} {x : Inn} (h : InOk w x) (hb : Below w.heap.size w w') : InOk w' x := ⟨h.1.below hb, h.2⟩
theorem InOk.alloc {w : World} {x : Inn} (h : InOk w x) (o : Obj) : InOk (w.alloc o) x := ⟨h.1.alloc o, h.2⟩
/-- the first k lists, one after the other -/
def flt (l : List Inn) (k : Nat) : List Int := (l.take k).flatMap (fun x => x.2.2)
theorem flt_succ {l : List Inn} {k : Nat} (hk : k < l.length) : flt l (k + 1) = flt l k ++ l[k].2.2 := by
  unfold flt; rw [List.take_succ_eq_append_getElem hk, List.flatMap_append]; simp
theorem flt_zero (l : List Inn) : flt l 0 = [] := rfl
theorem flt_le {l : List Inn} : ∀ {k m : Nat}, k ≤ m → m ≤ l.length → (flt l k).length ≤ (flt l m).length := by
  intro k m h
  induction m with
  | zero => intro _; have : k = 0 := by omega
            subst this; exact Nat.le_refl _
  | succ m ih =>
    intro hm
    by_cases hk : k = m + 1
    · subst hk; exact Nat.le_refl _
    · rw [flt_succ (by omega), List.length_append]
      have := ih (by omega) (by omega)
      omega
theorem flt_bd {w : World} {l : List Inn} (h : ∀ x ∈ l, InOkS w x) : ∀ k, k ≤ l.length → (flt l k).length ≤ k * 17592186043904 := by
  intro k
  induction k with
  | zero => intro _; simp [flt]
  | succ k ih =>
    intro hk
    have h1 := h l[k] (List.getElem_mem _)
    have h2 := h1.1.2.2.2.1
    have h3 := h1.2
    rw [flt_succ (by omega), List.length_append]
    have := ih (by omega)
    omega
end Go.Proofs.Ytnflpnbpigcfhaa
