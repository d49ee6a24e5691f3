/- WaveNil: the walk -/
import Derived.Test.YtnhkngmdjomfjaaKnown
namespace Go.Proofs.Ytnhkngmdjomfjaa
open Go.RowKit Ear

set_option maxHeartbeats 400000 in
theorem Feed_nil (v : Value) (w : World) (y : Value) (h : Hid (Calls Try.prog 72 #[v] w fun e w' => e = .returned (.bool false) ∧ w = w')) : Calls Try.prog 35 #[v, y] w fun e w' => e = .returned (.tuple #[.slice none 0 0, .int .i64 1]) ∧ w = w' := by
  go_enter Try.func35, Try.ntmps35
  go_wp2_with fail
  refine h.out.mono ?_
  rintro e w' ⟨rfl, rfl⟩
  go_wp2_with fail
  go_ret2
  exact ⟨rfl, rfl⟩
set_option maxHeartbeats 400000 in
theorem Close_nil (v : Value) (w : World) (h : Hid (Calls Try.prog 72 #[v] w fun e w' => e = .returned (.bool false) ∧ w = w')) : Calls Try.prog 36 #[v] w fun e w' => e = .returned (.tuple #[.slice none 0 0, .int .i64 1]) ∧ w = w' := by
  go_enter Try.func36, Try.ntmps36
  go_wp2_with fail
  refine h.out.mono ?_
  rintro e w' ⟨rfl, rfl⟩
  go_wp2_with fail
  go_ret2
  exact ⟨rfl, rfl⟩
set_option maxHeartbeats 400000 in
theorem At_nil (v : Value) (w : World) (h : Hid (Calls Try.prog 72 #[v] w fun e w' => e = .returned (.bool false) ∧ w = w')) : Calls Try.prog 37 #[v] w fun e w' => e = .returned (.tuple #[.int .i64 0, .bool false]) ∧ w = w' := by
  go_enter Try.func37, Try.ntmps37
  go_wp2_with fail
  refine h.out.mono ?_
  rintro e w' ⟨rfl, rfl⟩
  go_wp2_with fail
  go_ret2
  exact ⟨rfl, rfl⟩
set_option maxHeartbeats 400000 in
theorem silent_any (v y : Value) (w : World) (h : Hid (Calls Try.prog 72 #[v] w fun e w' => e = .returned (.bool false) ∧ w = w')) : Calls Try.prog 38 #[v, y] w fun e w' => e = .returned (.bool true) ∧ w = w' := by
  go_enter Try.func38, Try.ntmps38
  go_wp2_with fail
  refine (Feed_nil v w y h).mono ?_
  rintro e w' ⟨rfl, rfl⟩
  go_wp2_with fail
  refine (Close_nil v w h).mono ?_
  rintro e w' ⟨rfl, rfl⟩
  go_wp2_with fail
  refine (At_nil v w h).mono ?_
  rintro e w' ⟨rfl, rfl⟩
  go_wp2_with fail
  go_ret
  exact ⟨rfl, rfl⟩

set_option maxHeartbeats 400000 in
theorem WaveNil_any (A : Option Addr) (n c : Nat) (w : World) (hn : n ≤ 9223372036854775807) : Calls Try.prog 10 #[.slice A n c] w fun e w' => e = .returned (.bool true) ∧ Below w.heap.size w w' := by
  by_cases h1 : 1000 < n
  · go_enter Try.func10, Try.ntmps10
    go_wp2_with fail
    refine (known2_any _).mono ?_
    rintro e w1 ⟨rfl, hb⟩
    go_wp2_with fail
    go_ret
    exact ⟨rfl, hb⟩
  · go_enter Try.func10, Try.ntmps10
    go_wp2_with fail
    refine (silent_any _ _ _ (Lib.hid (usable_nil _))).mono ?_
    rintro e w1 ⟨rfl, rfl⟩
    go_wp2_with fail
    refine (silent_any _ _ _ (Lib.hid (usable_no w.heap.size _ (by simp [go_sem])))).mono ?_
    rintro e w1 ⟨rfl, rfl⟩
    go_wp2_with fail
    refine (known2_any _).mono ?_
    rintro e w1 ⟨rfl, hb⟩
    go_wp2_with fail
    go_ret
    exact ⟨rfl, bel_trans (bel_alloc (Below.refl _ _) _) hb⟩
end Go.Proofs.Ytnhkngmdjomfjaa
