/- Slack and the reference's -/
import Derived.Test.YtfapmghhmkekaaaDoorMb
import Derived.Test.YtfapmghhmkekaaaDoorMc
namespace Go.Proofs.YtfapmghhmkekaaaDoor
open Go.RowKit Ear

/-- the absolute values of the first k -/
def slS (l : List Int) : Nat → Int
  | 0 => 0
  | k + 1 => slS l k + max (l[k]?.getD 0) (-(l[k]?.getD 0))
def slk (l : List Int) : Int := (slS l l.length + 1) / 2
theorem slS_bd {l : List Int} (h : allR (-65536) 65536 l = true) (k : Nat) : 0 ≤ slS l k ∧ slS l k ≤ k * 65536 := by
  induction k with
  | zero => simp [slS]
  | succ k ih =>
    have h2 := getD_bd h (by omega) (by omega) k
    simp only [slS]
    generalize l[k]?.getD 0 = x at *
    omega
/-- the post of a function that makes memory and answers two integers -/
def Ret2B (a b : Int) (w : World) (e : Ending) (w' : World) : Prop := e = .returned (.tuple #[.int .i64 a, .int .i64 b]) ∧ Below w.heap.size w w'
set_option maxHeartbeats 400000 in
theorem Slack_no (A : Option Addr) (c : Nat) (l : List Int) (w : World) (h : Lies w A (ics l)) (hn : l.length ≤ 9223372036854775807) (ho : ¬ (l.length ≤ 64 ∧ allR (-65536) 65536 l = true)) :
    Calls Tryd.prog 37 #[.slice A l.length c] w (Ret2B 0 2 w) := by
  by_cases h1 : 64 < l.length
  · go_enter Tryd.func37, Tryd.ntmps37
    go_wp2_with fail
    go_ret2
    exact ⟨rfl, Below.refl _ _⟩
  · have h2 : allR (-65536) 65536 l = false := by
      cases hx : allR (-65536) 65536 l with
      | false => rfl
      | true => exact absurd ⟨by omega, hx⟩ ho
    have H2 := Lib.hid h2
    clear h2 ho
    go_enter Tryd.func37, Tryd.ntmps37
    go_wp2_with fail
    refine (within_any A c l 65536 _ h hn (by omega) (by omega) false H2).mono ?_
    rintro e w1 ⟨rfl, hb1⟩
    go_wp2_with fail
    go_ret2
    exact ⟨rfl, hb1⟩
set_option maxRecDepth 100000 in
set_option maxHeartbeats 1000000 in
theorem Slack_ok (A : Option Addr) (c : Nat) (l : List Int) (w : World) (h : Lies w A (ics l)) (h64 : l.length ≤ 64) (hv : Hid (allR (-65536) 65536 l = true)) :
    Calls Tryd.prog 37 #[.slice A l.length c] w (Ret2B (slk l) 0 w) := by
  go_enter Tryd.func37, Tryd.ntmps37
  go_wp2_with fail
  refine (within_any A c l 65536 _ h (by omega) (by omega) (by omega) true hv).mono ?_
  rintro e w1 ⟨rfl, hb1⟩
  have L1 := h.below hb1
  go_wp2_with fail
  go_loop [4, 6, 17] (fun s _ i => ∃ k : Nat, k ≤ l.length ∧ i = .int .i64 k ∧ s = .int .i64 (slS l k)) (fun _ _ i => l.length - (intOf i).toNat)
  case atStart => exact ⟨0, by omega, rfl, rfl⟩
  case round =>
    obtain ⟨k, hk, rfl, rfl⟩ := hrel
    have hb := slS_bd hv.out k
    by_cases hlt : k < l.length
    · obtain ⟨b1, o1, rfl, hb1', hc1⟩ := L1.at_ hlt
      have hx := getD_bd hv.out (by omega) (by omega) k
      have hs : Hid (slS l (k + 1) = slS l k + max (l[k]?.getD 0) (-(l[k]?.getD 0))) := rfl
      generalize l[k]?.getD 0 = x at *
      generalize slS l k = s at *
      obtain ⟨y, hy⟩ : ∃ y, max x (-x) = y := ⟨_, rfl⟩
      have hyb : 0 ≤ y ∧ y ≤ 65536 := by omega
      have HY := Lib.hid hy
      have HIF : Hid ((if x < -x then -x else x) = y) := Lib.hid (by split <;> omega)
      rw [hy] at hs
      clear hy
      go_wp2_with fail
      exact ⟨⟨k + 1, by omega, by go_num, by first | rw [hs.out, HIF.out] | rw [hs.out, HY.out]⟩, by simp [intOf]; omega⟩
    · obtain rfl : k = l.length := by omega
      have E : Hid ((slS l l.length + 1) / 2 = slk l) := rfl
      generalize slS l l.length = s at *
      go_wp2_with fail
      go_ret2
      exact ⟨by rw [← E.out]; rfl, hb1⟩
set_option maxRecDepth 100000 in
set_option maxHeartbeats 1000000 in
theorem rSlack_any (A : Option Addr) (c : Nat) (l : List Int) (w : World) (h : Lies w A (ics l)) (h64 : l.length ≤ 64) (hv : Hid (allR (-65536) 65536 l = true)) :
    Calls Tryd.prog 38 #[.slice A l.length c] w (RetI (slk l) w) := by
  go_enter Tryd.func38, Tryd.ntmps38
  go_wp2_with fail
  go_loopw [3, 4] (fun s i wr => ∃ k : Nat, k ≤ l.length ∧ i = .int .i64 k ∧ s = .int .i64 (slS l k) ∧ ∃ n, wr = w.drewN n) (fun _ i _ => l.length - (intOf i).toNat)
  case atStart => exact ⟨0, by omega, rfl, rfl, 0, rfl⟩
  case round =>
    obtain ⟨k, hk, rfl, rfl, n, rfl⟩ := hrel
    have hb := slS_bd hv.out k
    by_cases hlt : k < l.length
    · obtain ⟨b1, o1, rfl, hb1', hc1⟩ := h.at_ hlt
      have hx := getD_bd hv.out (by omega) (by omega) k
      have hs : Hid (slS l (k + 1) = slS l k + max (l[k]?.getD 0) (-(l[k]?.getD 0))) := rfl
      generalize l[k]?.getD 0 = x at *
      generalize slS l k = s at *
      obtain ⟨y, hy⟩ : ∃ y, max x (-x) = y := ⟨_, rfl⟩
      have hyb : 0 ≤ y ∧ y ≤ 65536 := by omega
      have HY := Lib.hid hy
      have HIF : Hid ((if x < -x then -x else x) = y) := Lib.hid (by split <;> omega)
      rw [hy] at hs
      clear hy
      have p1 : IntKind.i64.wrap (-x) = -x := IntWalk.i64_in _ (by omega)
      have p2 : IntKind.i64.wrap (s + y) = s + y := IntWalk.i64_in _ (by omega)
      go_wp2_with fail
      go_quiet (fail)
      go_wp2_with fail
      exact ⟨⟨k + 1, by omega, by go_num, by first | rw [hs.out, HIF.out] | rw [hs.out, HY.out], ⟨_, rfl⟩⟩, by simp [intOf]; omega⟩
    · obtain rfl : k = l.length := by omega
      have E : Hid ((slS l l.length + 1) / 2 = slk l) := rfl
      generalize slS l l.length = s at *
      go_wp2_with fail
      go_ret
      exact ⟨by rw [← E.out]; rfl, n, rfl⟩
end Go.Proofs.YtfapmghhmkekaaaDoor
