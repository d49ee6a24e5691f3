/- the reference's Window -/
import Derived.Test.YtnflpnbpigcfhabDoorMa
namespace Go.Proofs.YtnflpnbpigcfhabDoor
open Go.RowKit Ear

/-- a list and a bool -/
def IntsBool (b : Bool) (out : List Int) (w : World) (e : Ending) (w' : World) : Prop :=
  ∃ A c, e = .returned (.tuple #[.slice A out.length c, .bool b]) ∧ w'.ownsRow w.heap.size 3 1 (.slice A out.length c) out.length (ics out) ∧ Below w.heap.size w w'

set_option maxHeartbeats 1000000 in
theorem rWindow_bad (kind size : Int) (w : World) (h : kind < 1 ∨ 3 < kind ∨ size < 1 ∨ 4096 < size) :
    Calls Tryd.prog 13 #[.int .i64 kind, .int .i64 size] w (IntsBool false [] w) := by
  have hcase : size < 1 ∨ 4096 < size ∨ (1 ≤ size ∧ size ≤ 4096 ∧ kind < 1) ∨ (1 ≤ size ∧ size ≤ 4096 ∧ 3 < kind) := by omega
  clear h
  rcases hcase with h | h | ⟨h1, h2, h3⟩ | ⟨h1, h2, h3⟩
  all_goals
    go_enter Tryd.func13, Tryd.ntmps13
    go_wp2_with fail
    go_ret2
    exact ⟨none, 0, rfl, World.ownsRow_nil _ _ _ _, Below.refl _ _⟩

theorem wt1_eq (n d : Int) : wt 1 n d = 4096 := rfl
theorem wt3_eq (n d : Int) : wt 3 n d = rnd (4096 * ((n + 1) * (n + 1) - d * d)) ((n + 1) * (n + 1)) := rfl

set_option maxRecDepth 100000 in
set_option maxHeartbeats 2000000 in
theorem rWindow_ok (kind : Int) (size : Nat) (w : World) (hk1 : 1 ≤ kind) (hk3 : kind ≤ 3) (hs1 : 1 ≤ size) (hs2 : size ≤ 4096) :
    Calls Tryd.prog 13 #[.int .i64 kind, .int .i64 size] w (IntsBool true (winTo kind size size) w) := by
  obtain ⟨i0, hi0, hz0, hz1, hz2⟩ := info_parts int_info
  have HI := Lib.hid hi0; have HZ0 := Lib.hid hz0; have HZ1 := Lib.hid hz1; have HZ2 := Lib.hid hz2
  clear hi0 hz0 hz1 hz2
  have hcase : kind = 1 ∨ kind = 2 ∨ kind = 3 := by omega
  clear hk1 hk3
  have h2' : ((size : Int) + 1) * ((size : Int) + 1) ≤ 17000000 := by
    have : ((size : Int) + 1) * ((size : Int) + 1) ≤ 4097 * 4097 := Int.mul_le_mul (by omega) (by omega) (by omega) (by omega)
    omega
  have h4' : 4 ≤ ((size : Int) + 1) * ((size : Int) + 1) := Int.mul_le_mul (a := 2) (c := (size : Int) + 1) (b := 2) (d := (size : Int) + 1) (by omega) (by omega) (by omega) (by omega)
  rcases hcase with rfl | rfl | rfl
  all_goals
    have e1 : decide ((size : Int) < 1) = false := by simp; omega
    have e2 : decide ((4096 : Int) < size) = false := by simp; omega
    go_enter Tryd.func13, Tryd.ntmps13
    go_wp2_with fail
    clear e1 e2
  · go_loopw [6, 7, 8, 9] (fun v i _ _ wr => ∃ j : Nat, j ≤ size ∧ i = .int .i64 j ∧ ∃ A c, v = .slice A j c ∧ wr.ownsRow w.heap.size 3 1 (.slice A j c) j (ics (winTo 1 size j)) ∧ Below w.heap.size w wr) (fun _ i _ _ _ => size - (intOf i).toNat)
    case atStart => exact ⟨0, Nat.zero_le _, rfl, none, 0, rfl, World.ownsRow_nil _ _ _ _, Below.refl _ _⟩
    case round =>
      obtain ⟨j, hj, rfl, A, c, rfl, r1, r2⟩ := hrel
      by_cases hlt : j < size
      · go_wp2_with (at_builtin; refine wpList_append_own_at _ rfl (.tmp 65) (.tmp 67) _ rfl w.heap.size 3 i0 _ 1 8 Tryd.underlying22 HI.out HZ0.out HZ1.out HZ2.out rfl (by omega) (.slice A j c) j (ics (winTo 1 size j)) rfl (r1.alloc _) ⟨wr.heap.size, 0, none⟩ 1 1 [.int .i64 4096] rfl rfl (cell_one_new _ _ _) (by simp [Value.oneCell']) (by unfold maxLen; omega) (by omega) (by simp; exact Nat.le_succ_of_le r2.size) ?_; intro v' w2 hown1 hgrow _ hat)
        obtain ⟨A', c', rfl⟩ := own_slice hown1
        exact ⟨⟨j + 1, by omega, by go_num, A', c', rfl, by rw [winTo_succ]; simpa [ics, winAt, wt1_eq] using hown1, (r2.alloc r2.size _).grown hgrow (by simp; exact Nat.le_succ_of_le r2.size) (fun k hk => (r1.lt k hk).1)⟩, by simp [intOf]; omega⟩
      · obtain rfl : j = size := by omega
        go_wp2_with fail
        go_ret2
        exact ⟨A, c, by rw [winTo_length]; rfl, by rw [winTo_length]; exact r1, r2⟩
  · go_loopw [6, 7, 8, 9] (fun v i _ _ wr => ∃ j : Nat, j ≤ size ∧ i = .int .i64 j ∧ ∃ A c, v = .slice A j c ∧ wr.ownsRow w.heap.size 3 1 (.slice A j c) j (ics (winTo 2 size j)) ∧ Below w.heap.size w wr) (fun _ i _ _ _ => size - (intOf i).toNat)
    case atStart => exact ⟨0, Nat.zero_le _, rfl, none, 0, rfl, World.ownsRow_nil _ _ _ _, Below.refl _ _⟩
    case round =>
      obtain ⟨j, hj, rfl, A, c, rfl, r1, r2⟩ := hrel
      by_cases hlt : j < size
      · rcases Int.lt_or_le (2 * (j : Int) - ((size : Int) - 1)) 0 with hd | hd
        · go_wp2_with (first
            | (go_at_call 29; refine (Round_any _ _ _ (by omega) (by omega) (by omega) (by omega)).mono ?_; rintro e w' ⟨rfl, rfl⟩)
            | (at_builtin; refine wpList_append_own_at _ rfl (.tmp 65) (.tmp 67) _ rfl w.heap.size 3 i0 _ 1 8 Tryd.underlying22 HI.out HZ0.out HZ1.out HZ2.out rfl (by omega) (.slice A j c) j (ics (winTo 2 size j)) rfl (r1.alloc _) ⟨wr.heap.size, 0, none⟩ 1 1 [.int .i64 (rnd (4096 * ((size : Int) + 1 + (2 * (j : Int) - ((size : Int) - 1)))) ((size : Int) + 1))] rfl rfl (cell_one_new _ _ _) (by simp [Value.oneCell']) (by unfold maxLen; omega) (by omega) (by simp; exact Nat.le_succ_of_le r2.size) ?_; intro v' w2 hown1 hgrow _ hat))
          obtain ⟨A', c', rfl⟩ := own_slice hown1
          exact ⟨⟨j + 1, by omega, by go_num, A', c', rfl, by rw [winTo_succ]; simpa [ics, winAt, wt2_neg hd] using hown1, (r2.alloc r2.size _).grown hgrow (by simp; exact Nat.le_succ_of_le r2.size) (fun k hk => (r1.lt k hk).1)⟩, by simp [intOf]; omega⟩
        · go_wp2_with (first
            | (go_at_call 29; refine (Round_any _ _ _ (by omega) (by omega) (by omega) (by omega)).mono ?_; rintro e w' ⟨rfl, rfl⟩)
            | (at_builtin; refine wpList_append_own_at _ rfl (.tmp 65) (.tmp 67) _ rfl w.heap.size 3 i0 _ 1 8 Tryd.underlying22 HI.out HZ0.out HZ1.out HZ2.out rfl (by omega) (.slice A j c) j (ics (winTo 2 size j)) rfl (r1.alloc _) ⟨wr.heap.size, 0, none⟩ 1 1 [.int .i64 (rnd (4096 * ((size : Int) + 1 - (2 * (j : Int) - ((size : Int) - 1)))) ((size : Int) + 1))] rfl rfl (cell_one_new _ _ _) (by simp [Value.oneCell']) (by unfold maxLen; omega) (by omega) (by simp; exact Nat.le_succ_of_le r2.size) ?_; intro v' w2 hown1 hgrow _ hat))
          obtain ⟨A', c', rfl⟩ := own_slice hown1
          exact ⟨⟨j + 1, by omega, by go_num, A', c', rfl, by rw [winTo_succ]; simpa [ics, winAt, wt2_pos hd] using hown1, (r2.alloc r2.size _).grown hgrow (by simp; exact Nat.le_succ_of_le r2.size) (fun k hk => (r1.lt k hk).1)⟩, by simp [intOf]; omega⟩
      · obtain rfl : j = size := by omega
        go_wp2_with fail
        go_ret2
        exact ⟨A, c, by rw [winTo_length]; rfl, by rw [winTo_length]; exact r1, r2⟩
  · go_loopw [6, 7, 8, 9] (fun v i _ _ wr => ∃ j : Nat, j ≤ size ∧ i = .int .i64 j ∧ ∃ A c, v = .slice A j c ∧ wr.ownsRow w.heap.size 3 1 (.slice A j c) j (ics (winTo 3 size j)) ∧ Below w.heap.size w wr) (fun _ i _ _ _ => size - (intOf i).toNat)
    case atStart => exact ⟨0, Nat.zero_le _, rfl, none, 0, rfl, World.ownsRow_nil _ _ _ _, Below.refl _ _⟩
    case round =>
      obtain ⟨j, hj, rfl, A, c, rfl, r1, r2⟩ := hrel
      by_cases hlt : j < size
      · have hq := sq_bd (d := (2 * (j : Int) - ((size : Int) - 1))) (n := (size : Int)) (by omega) (by omega)
        have hq2 : (size : Int) * size ≤ ((size : Int) + 1) * ((size : Int) + 1) := Int.mul_le_mul (by omega) (by omega) (by omega) (by omega)
        go_wp2_with (first
          | (go_at_call 29; refine (Round_any _ _ _ (by omega) (by omega) (by omega) (by omega)).mono ?_; rintro e w' ⟨rfl, rfl⟩)
          | (at_builtin; refine wpList_append_own_at _ rfl (.tmp 65) (.tmp 67) _ rfl w.heap.size 3 i0 _ 1 8 Tryd.underlying22 HI.out HZ0.out HZ1.out HZ2.out rfl (by omega) (.slice A j c) j (ics (winTo 3 size j)) rfl (r1.alloc _) ⟨wr.heap.size, 0, none⟩ 1 1 [.int .i64 (rnd (4096 * (((size : Int) + 1) * ((size : Int) + 1) - (2 * (j : Int) - ((size : Int) - 1)) * (2 * (j : Int) - ((size : Int) - 1)))) (((size : Int) + 1) * ((size : Int) + 1)))] rfl rfl (cell_one_new _ _ _) (by simp [Value.oneCell']) (by unfold maxLen; omega) (by omega) (by simp; exact Nat.le_succ_of_le r2.size) ?_; intro v' w2 hown1 hgrow _ hat))
        obtain ⟨A', c', rfl⟩ := own_slice hown1
        exact ⟨⟨j + 1, by omega, by go_num, A', c', rfl, by rw [winTo_succ]; simpa [ics, winAt, wt3_eq] using hown1, (r2.alloc r2.size _).grown hgrow (by simp; exact Nat.le_succ_of_le r2.size) (fun k hk => (r1.lt k hk).1)⟩, by simp [intOf]; omega⟩
      · obtain rfl : j = size := by omega
        go_wp2_with fail
        go_ret2
        exact ⟨A, c, by rw [winTo_length]; rfl, by rw [winTo_length]; exact r1, r2⟩
end Go.Proofs.YtnflpnbpigcfhabDoor
