/- energy, next, right, Gate, usable -/
import Derived.Test.YtnflpnbpigcfhaaWeighW
import Derived.Test.YtnflpnbpigcfhaaPSeg
namespace Go.Proofs.Ytnflpnbpigcfhaa
open Go.RowKit Ear

theorem enr_take_succ {l : List Int} {k : Nat} (hk : k < l.length) : enr (l.take (k + 1)) = enr (l.take k) + l[k] * l[k] := by
  rw [List.take_succ_eq_append_getElem hk, enr_append]; simp [enr]

set_option maxHeartbeats 400000 in
theorem energy_any (A : Option Addr) (c : Nat) (l : List Int) (w : World) (h : Lies w A (ics l)) (hv : Hid (allR (-65536) 65535 l = true)) (hn : l.length ≤ 200000) :
    Calls Try.prog 46 #[.slice A l.length c] w fun e w' => e = .returned (.int .i64 (enr l)) ∧ w = w' := by
  go_enter Try.func46, Try.ntmps46
  go_wp2_with fail
  go_loop [3, 5, 8] (fun s _ i => ∃ k : Nat, k ≤ l.length ∧ i = .int .i64 k ∧ s = .int .i64 (enr (l.take k))) (fun _ _ i => l.length - (intOf i).toNat)
  case atStart => exact ⟨0, Nat.zero_le _, rfl, rfl⟩
  case round =>
    obtain ⟨k, hk, rfl, rfl⟩ := hrel
    have hb := enr_bd (l := l.take k) (B := 65536) (fun x hx => by have := allR_mem hv.out (List.mem_of_mem_take hx); omega)
    have hl : (l.take k).length ≤ 200000 := by simp; omega
    have hb2 : 65536 * 65536 * ((l.take k).length : Int) ≤ 65536 * 65536 * 200000 := by omega
    by_cases hlt : k < l.length
    · obtain ⟨bk, off, rfl, hbb, hc⟩ := h.at_ hlt
      have hx := allR_get hv.out hlt
      have hq := sq_bd (d := l[k]) (n := 65536) (by omega) (by omega)
      have HS := Lib.hid (enr_take_succ hlt)
      have e1 : l[k]?.getD 0 = l[k] := by simp [List.getElem?_eq_getElem hlt]
      rw [e1] at hc
      clear e1
      generalize hx1 : l[k] = x1 at *
      generalize hx2 : enr (l.take k) = x2 at *
      go_wp2_with fail
      exact ⟨⟨k + 1, by omega, by go_num, by rw [HS.out]⟩, by simp [intOf]; omega⟩
    · go_wp2_with fail
      go_ret
      exact ⟨ret_int (by rw [List.take_of_length_le (by omega)]), rfl⟩

set_option maxHeartbeats 400000 in
theorem next_any (r : Int) (b : Bool) (w : World) (hr : 0 ≤ r) (hr' : r ≤ 1000000000000) :
    Calls Try.prog 47 #[.int .i64 r, .bool b] w fun e w' => e = .returned (.int .i64 (if b = true then r + 1 else 0)) ∧ w = w' := by
  cases b
  all_goals
    go_enter Try.func47, Try.ntmps47
    go_wp2_with fail
    go_ret
    exact ⟨rfl, rfl⟩

/-- a gate as a value -/
abbrev gateV (g : Gt) : Value := .agg #[.int .i64 g.block, .int .i64 g.high, .int .i64 g.low, .int .i64 g.rise, .int .i64 g.fall, .int .i64 g.lead, .int .i64 g.longest]

set_option maxHeartbeats 400000 in
theorem right1_any (n lo hi : Int) (w : World) (b : Bool) (hb : Hid (inR lo hi n = b)) : Calls Try.prog 45 #[.int .i64 n, .int .i64 lo, .int .i64 hi] w fun e w' => e = .returned (.bool b) ∧ w = w' := by
  by_cases h1 : lo ≤ n
  · by_cases h2 : n ≤ hi
    all_goals
      go_enter Try.func45, Try.ntmps45
      go_wp2_with fail
      go_ret
      exact ⟨ret_bool (by rw [← hb.out]; simp [inR, h1, h2]), rfl⟩
  · go_enter Try.func45, Try.ntmps45
    go_wp2_with fail
    go_ret
    exact ⟨ret_bool (by rw [← hb.out, inR_false.2 (by omega)]), rfl⟩

set_option maxHeartbeats 1000000 in
theorem right_any (g : Gt) (w : World) (b : Bool) (hb : Hid (decide g.ok = b)) : Calls Try.prog 37 #[gateV g] w fun e w' => e = .returned (.bool b) ∧ Below w.heap.size w w' := by
  obtain ⟨g1, g2, g3, g4, g5, g6, g7⟩ := g
  have hok : b = true ↔ (1 ≤ g1 ∧ g1 ≤ 4096) ∧ (0 ≤ g3 ∧ g3 ≤ g2) ∧ g2 ≤ 1073741824 ∧ (1 ≤ g4 ∧ g4 ≤ 1000) ∧ (1 ≤ g5 ∧ g5 ≤ 1000) ∧ (0 ≤ g6 ∧ g6 ≤ 1000) ∧ (g4 + g5 + g6 ≤ g7 ∧ g7 ≤ 100000) := by
    rw [← hb.out, decide_eq_true_iff]; simp only [Gt.ok]; omega
  have HOK := Lib.hid hok
  clear hok hb
  by_cases c1 : 1 ≤ g1 ∧ g1 ≤ 4096
  case neg =>
    have hz : b = false := by
      have := HOK.out
      cases b with
      | false => rfl
      | true => exact absurd (this.1 rfl) (by omega)
    subst hz
    clear HOK
    go_enter Try.func37, Try.ntmps37
    go_wp2_with fail
    refine (right1_any _ _ _ _ false (Lib.hid (inR_false.2 (by omega)))).mono ?_
    rintro e w' ⟨rfl, rfl⟩
    go_wp2_with fail
    go_ret
    exact ⟨rfl, (Below.refl _ _).alloc (Nat.le_refl _) _⟩
  by_cases c2 : 0 ≤ g3 ∧ g3 ≤ g2
  case neg =>
    have hz : b = false := by
      have := HOK.out
      cases b with
      | false => rfl
      | true => exact absurd (this.1 rfl) (by omega)
    subst hz
    clear HOK
    go_enter Try.func37, Try.ntmps37
    go_wp2_with fail
    refine (right1_any _ _ _ _ true (Lib.hid (inR_true.2 (by omega)))).mono ?_
    rintro e w' ⟨rfl, rfl⟩
    go_wp2_with fail
    refine (right1_any _ _ _ _ false (Lib.hid (inR_false.2 (by omega)))).mono ?_
    rintro e w' ⟨rfl, rfl⟩
    go_wp2_with fail
    go_ret
    exact ⟨rfl, (Below.refl _ _).alloc (Nat.le_refl _) _⟩
  by_cases c3 : g2 ≤ 1073741824
  case neg =>
    have hz : b = false := by
      have := HOK.out
      cases b with
      | false => rfl
      | true => exact absurd (this.1 rfl) (by omega)
    subst hz
    clear HOK
    go_enter Try.func37, Try.ntmps37
    go_wp2_with fail
    refine (right1_any _ _ _ _ true (Lib.hid (inR_true.2 (by omega)))).mono ?_
    rintro e w' ⟨rfl, rfl⟩
    go_wp2_with fail
    refine (right1_any _ _ _ _ true (Lib.hid (inR_true.2 (by omega)))).mono ?_
    rintro e w' ⟨rfl, rfl⟩
    go_wp2_with fail
    go_ret
    exact ⟨rfl, (Below.refl _ _).alloc (Nat.le_refl _) _⟩
  by_cases c4 : 1 ≤ g4 ∧ g4 ≤ 1000
  case neg =>
    have hz : b = false := by
      have := HOK.out
      cases b with
      | false => rfl
      | true => exact absurd (this.1 rfl) (by omega)
    subst hz
    clear HOK
    go_enter Try.func37, Try.ntmps37
    go_wp2_with fail
    refine (right1_any _ _ _ _ true (Lib.hid (inR_true.2 (by omega)))).mono ?_
    rintro e w' ⟨rfl, rfl⟩
    go_wp2_with fail
    refine (right1_any _ _ _ _ true (Lib.hid (inR_true.2 (by omega)))).mono ?_
    rintro e w' ⟨rfl, rfl⟩
    go_wp2_with fail
    refine (right1_any _ _ _ _ false (Lib.hid (inR_false.2 (by omega)))).mono ?_
    rintro e w' ⟨rfl, rfl⟩
    go_wp2_with fail
    go_ret
    exact ⟨rfl, (Below.refl _ _).alloc (Nat.le_refl _) _⟩
  by_cases c5 : 1 ≤ g5 ∧ g5 ≤ 1000
  case neg =>
    have hz : b = false := by
      have := HOK.out
      cases b with
      | false => rfl
      | true => exact absurd (this.1 rfl) (by omega)
    subst hz
    clear HOK
    go_enter Try.func37, Try.ntmps37
    go_wp2_with fail
    refine (right1_any _ _ _ _ true (Lib.hid (inR_true.2 (by omega)))).mono ?_
    rintro e w' ⟨rfl, rfl⟩
    go_wp2_with fail
    refine (right1_any _ _ _ _ true (Lib.hid (inR_true.2 (by omega)))).mono ?_
    rintro e w' ⟨rfl, rfl⟩
    go_wp2_with fail
    refine (right1_any _ _ _ _ true (Lib.hid (inR_true.2 (by omega)))).mono ?_
    rintro e w' ⟨rfl, rfl⟩
    go_wp2_with fail
    refine (right1_any _ _ _ _ false (Lib.hid (inR_false.2 (by omega)))).mono ?_
    rintro e w' ⟨rfl, rfl⟩
    go_wp2_with fail
    go_ret
    exact ⟨rfl, (Below.refl _ _).alloc (Nat.le_refl _) _⟩
  by_cases c6 : 0 ≤ g6 ∧ g6 ≤ 1000
  case neg =>
    have hz : b = false := by
      have := HOK.out
      cases b with
      | false => rfl
      | true => exact absurd (this.1 rfl) (by omega)
    subst hz
    clear HOK
    go_enter Try.func37, Try.ntmps37
    go_wp2_with fail
    refine (right1_any _ _ _ _ true (Lib.hid (inR_true.2 (by omega)))).mono ?_
    rintro e w' ⟨rfl, rfl⟩
    go_wp2_with fail
    refine (right1_any _ _ _ _ true (Lib.hid (inR_true.2 (by omega)))).mono ?_
    rintro e w' ⟨rfl, rfl⟩
    go_wp2_with fail
    refine (right1_any _ _ _ _ true (Lib.hid (inR_true.2 (by omega)))).mono ?_
    rintro e w' ⟨rfl, rfl⟩
    go_wp2_with fail
    refine (right1_any _ _ _ _ true (Lib.hid (inR_true.2 (by omega)))).mono ?_
    rintro e w' ⟨rfl, rfl⟩
    go_wp2_with fail
    refine (right1_any _ _ _ _ false (Lib.hid (inR_false.2 (by omega)))).mono ?_
    rintro e w' ⟨rfl, rfl⟩
    go_wp2_with fail
    go_ret
    exact ⟨rfl, (Below.refl _ _).alloc (Nat.le_refl _) _⟩
  by_cases c7 : g4 + g5 + g6 ≤ g7 ∧ g7 ≤ 100000
  case neg =>
    have hz : b = false := by
      have := HOK.out
      cases b with
      | false => rfl
      | true => exact absurd (this.1 rfl) (by omega)
    subst hz
    clear HOK
    go_enter Try.func37, Try.ntmps37
    go_wp2_with fail
    refine (right1_any _ _ _ _ true (Lib.hid (inR_true.2 (by omega)))).mono ?_
    rintro e w' ⟨rfl, rfl⟩
    go_wp2_with fail
    refine (right1_any _ _ _ _ true (Lib.hid (inR_true.2 (by omega)))).mono ?_
    rintro e w' ⟨rfl, rfl⟩
    go_wp2_with fail
    refine (right1_any _ _ _ _ true (Lib.hid (inR_true.2 (by omega)))).mono ?_
    rintro e w' ⟨rfl, rfl⟩
    go_wp2_with fail
    refine (right1_any _ _ _ _ true (Lib.hid (inR_true.2 (by omega)))).mono ?_
    rintro e w' ⟨rfl, rfl⟩
    go_wp2_with fail
    refine (right1_any _ _ _ _ true (Lib.hid (inR_true.2 (by omega)))).mono ?_
    rintro e w' ⟨rfl, rfl⟩
    go_wp2_with fail
    refine (right1_any _ _ _ _ false (Lib.hid (inR_false.2 (by omega)))).mono ?_
    rintro e w' ⟨rfl, rfl⟩
    go_wp2_with fail
    go_ret
    exact ⟨rfl, (Below.refl _ _).alloc (Nat.le_refl _) _⟩
  have hz : b = true := HOK.out.2 ⟨c1, c2, c3, c4, c5, c6, c7⟩
  subst hz
  clear HOK
  go_enter Try.func37, Try.ntmps37
  go_wp2_with fail
  refine (right1_any _ _ _ _ true (Lib.hid (inR_true.2 (by omega)))).mono ?_
  rintro e w' ⟨rfl, rfl⟩
  go_wp2_with fail
  refine (right1_any _ _ _ _ true (Lib.hid (inR_true.2 (by omega)))).mono ?_
  rintro e w' ⟨rfl, rfl⟩
  go_wp2_with fail
  refine (right1_any _ _ _ _ true (Lib.hid (inR_true.2 (by omega)))).mono ?_
  rintro e w' ⟨rfl, rfl⟩
  go_wp2_with fail
  refine (right1_any _ _ _ _ true (Lib.hid (inR_true.2 (by omega)))).mono ?_
  rintro e w' ⟨rfl, rfl⟩
  go_wp2_with fail
  refine (right1_any _ _ _ _ true (Lib.hid (inR_true.2 (by omega)))).mono ?_
  rintro e w' ⟨rfl, rfl⟩
  go_wp2_with fail
  refine (right1_any _ _ _ _ true (Lib.hid (inR_true.2 (by omega)))).mono ?_
  rintro e w' ⟨rfl, rfl⟩
  go_wp2_with fail
  go_ret
  exact ⟨rfl, (Below.refl _ _).alloc (Nat.le_refl _) _⟩
end Go.Proofs.Ytnflpnbpigcfhaa
