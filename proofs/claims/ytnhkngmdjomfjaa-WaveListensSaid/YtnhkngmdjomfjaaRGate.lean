/- the reference's Gate -/
import Derived.Test.YtnhkngmdjomfjaaEnr
namespace Go.Proofs.Ytnhkngmdjomfjaa
open Go.RowKit Ear

set_option maxRecDepth 100000 in
set_option maxHeartbeats 4000000 in
theorem rGate_any (g : Gt) (w : World) (b : Bool) (hb : Hid (decide g.ok = b)) : Calls Try.prog 31 #[gateV g] w fun e w' => e = .returned (.bool b) ∧ Below w.heap.size w w' := by
  obtain ⟨g1, g2, g3, g4, g5, g6, g7⟩ := g
  have hok : b = true ↔ (1 ≤ g1 ∧ g1 ≤ 4096 ∧ 0 ≤ g3 ∧ g3 ≤ g2 ∧ g2 ≤ 1073741824 ∧ 1 ≤ g4 ∧ g4 ≤ 1000 ∧ 1 ≤ g5 ∧ g5 ≤ 1000 ∧ 0 ≤ g6 ∧ g6 ≤ 1000 ∧ g4 + g5 + g6 ≤ g7 ∧ g7 ≤ 100000) := by
    rw [← hb.out, decide_eq_true_iff]; simp only [Gt.ok]
  have HOK := Lib.hid hok
  clear hok hb
  by_cases c0 : 1 ≤ g1
  case neg =>
    have hz : b = false := by
      have := HOK.out
      cases b with
      | false => rfl
      | true => exact absurd (this.1 rfl) (by omega)
    subst hz
    clear HOK
    go_enter Try.func31, Try.ntmps31
    go_wp2_with fail
    go_ret
    exact ⟨rfl, (Below.refl _ _).alloc (Nat.le_refl _) _⟩
  by_cases c1 : g1 ≤ 4096
  case neg =>
    have hz : b = false := by
      have := HOK.out
      cases b with
      | false => rfl
      | true => exact absurd (this.1 rfl) (by omega)
    subst hz
    clear HOK
    go_enter Try.func31, Try.ntmps31
    go_wp2_with fail
    go_ret
    exact ⟨rfl, (Below.refl _ _).alloc (Nat.le_refl _) _⟩
  by_cases c2 : 0 ≤ g3
  case neg =>
    have hz : b = false := by
      have := HOK.out
      cases b with
      | false => rfl
      | true => exact absurd (this.1 rfl) (by omega)
    subst hz
    clear HOK
    go_enter Try.func31, Try.ntmps31
    go_wp2_with fail
    go_ret
    exact ⟨rfl, (Below.refl _ _).alloc (Nat.le_refl _) _⟩
  by_cases c3 : g3 ≤ g2
  case neg =>
    have hz : b = false := by
      have := HOK.out
      cases b with
      | false => rfl
      | true => exact absurd (this.1 rfl) (by omega)
    subst hz
    clear HOK
    go_enter Try.func31, Try.ntmps31
    go_wp2_with fail
    go_ret
    exact ⟨rfl, (Below.refl _ _).alloc (Nat.le_refl _) _⟩
  by_cases c4 : g2 ≤ 1073741824
  case neg =>
    have hz : b = false := by
      have := HOK.out
      cases b with
      | false => rfl
      | true => exact absurd (this.1 rfl) (by omega)
    subst hz
    clear HOK
    go_enter Try.func31, Try.ntmps31
    go_wp2_with fail
    go_ret
    exact ⟨rfl, (Below.refl _ _).alloc (Nat.le_refl _) _⟩
  by_cases c5 : 1 ≤ g4
  case neg =>
    have hz : b = false := by
      have := HOK.out
      cases b with
      | false => rfl
      | true => exact absurd (this.1 rfl) (by omega)
    subst hz
    clear HOK
    go_enter Try.func31, Try.ntmps31
    go_wp2_with fail
    go_ret
    exact ⟨rfl, (Below.refl _ _).alloc (Nat.le_refl _) _⟩
  by_cases c6 : g4 ≤ 1000
  case neg =>
    have hz : b = false := by
      have := HOK.out
      cases b with
      | false => rfl
      | true => exact absurd (this.1 rfl) (by omega)
    subst hz
    clear HOK
    go_enter Try.func31, Try.ntmps31
    go_wp2_with fail
    go_ret
    exact ⟨rfl, (Below.refl _ _).alloc (Nat.le_refl _) _⟩
  by_cases c7 : 1 ≤ g5
  case neg =>
    have hz : b = false := by
      have := HOK.out
      cases b with
      | false => rfl
      | true => exact absurd (this.1 rfl) (by omega)
    subst hz
    clear HOK
    go_enter Try.func31, Try.ntmps31
    go_wp2_with fail
    go_ret
    exact ⟨rfl, (Below.refl _ _).alloc (Nat.le_refl _) _⟩
  by_cases c8 : g5 ≤ 1000
  case neg =>
    have hz : b = false := by
      have := HOK.out
      cases b with
      | false => rfl
      | true => exact absurd (this.1 rfl) (by omega)
    subst hz
    clear HOK
    go_enter Try.func31, Try.ntmps31
    go_wp2_with fail
    go_ret
    exact ⟨rfl, (Below.refl _ _).alloc (Nat.le_refl _) _⟩
  by_cases c9 : 0 ≤ g6
  case neg =>
    have hz : b = false := by
      have := HOK.out
      cases b with
      | false => rfl
      | true => exact absurd (this.1 rfl) (by omega)
    subst hz
    clear HOK
    go_enter Try.func31, Try.ntmps31
    go_wp2_with fail
    go_ret
    exact ⟨rfl, (Below.refl _ _).alloc (Nat.le_refl _) _⟩
  by_cases c10 : g6 ≤ 1000
  case neg =>
    have hz : b = false := by
      have := HOK.out
      cases b with
      | false => rfl
      | true => exact absurd (this.1 rfl) (by omega)
    subst hz
    clear HOK
    go_enter Try.func31, Try.ntmps31
    go_wp2_with fail
    go_ret
    exact ⟨rfl, (Below.refl _ _).alloc (Nat.le_refl _) _⟩
  by_cases c11 : g4 + g5 + g6 ≤ g7
  case neg =>
    have hz : b = false := by
      have := HOK.out
      cases b with
      | false => rfl
      | true => exact absurd (this.1 rfl) (by omega)
    subst hz
    clear HOK
    go_enter Try.func31, Try.ntmps31
    go_wp2_with fail
    go_ret
    exact ⟨rfl, (Below.refl _ _).alloc (Nat.le_refl _) _⟩
  by_cases c12 : g7 ≤ 100000
  case neg =>
    have hz : b = false := by
      have := HOK.out
      cases b with
      | false => rfl
      | true => exact absurd (this.1 rfl) (by omega)
    subst hz
    clear HOK
    go_enter Try.func31, Try.ntmps31
    go_wp2_with fail
    go_ret
    exact ⟨rfl, (Below.refl _ _).alloc (Nat.le_refl _) _⟩
  have hz : b = true := HOK.out.2 (by omega)
  subst hz
  clear HOK
  go_enter Try.func31, Try.ntmps31
  go_wp2_with fail
  go_ret
  exact ⟨rfl, (Below.refl _ _).alloc (Nat.le_refl _) _⟩

end Go.Proofs.Ytnhkngmdjomfjaa
