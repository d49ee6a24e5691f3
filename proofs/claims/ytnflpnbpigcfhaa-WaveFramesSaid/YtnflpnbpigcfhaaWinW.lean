/- wave.Window and wave.Weigh -/
import Derived.Test.YtnflpnbpigcfhaaWin
import Derived.Test.YtnflpnbpigcfhaaEmphW
namespace Go.Proofs.Ytnflpnbpigcfhaa
open Go.RowKit Ear

theorem heap_two (w : World) (a b : Obj) : ((w.alloc a).alloc b).heap[w.heap.size + 1]? = some b := by
  have := heap_alloc_new (w.alloc a) b
  simpa using this

theorem winIdx_bad {kind : Int} (h : kind < 1 ∨ 3 < kind) : winIdx kind = -1 := by
  unfold winIdx; rw [if_neg (by omega), if_neg (by omega), if_neg (by omega)]
theorem winIdx_ok {kind : Int} (h1 : 1 ≤ kind) (h3 : kind ≤ 3) : winIdx kind = kind - 1 := by
  unfold winIdx; split
  · omega
  · split
    · omega
    · split <;> omega

set_option maxHeartbeats 1000000 in
theorem Window_bad (kind size : Int) (w : World) (h : kind < 1 ∨ 3 < kind ∨ size < 1 ∨ 4096 < size) :
    Calls Try.prog 26 #[.int .i64 kind, .int .i64 size] w (IntsErr 2 [] w) := by
  have hcase : (winIdx kind = -1) ∨ ((1 ≤ kind ∧ kind ≤ 3) ∧ size < 1) ∨ ((1 ≤ kind ∧ kind ≤ 3) ∧ 4096 < size) := by
    rcases h with h | h | h | h
    · exact .inl (winIdx_bad (.inl h))
    · exact .inl (winIdx_bad (.inr h))
    · by_cases hk : 1 ≤ kind ∧ kind ≤ 3
      · exact .inr (.inl ⟨hk, h⟩)
      · exact .inl (winIdx_bad (by omega))
    · by_cases hk : 1 ≤ kind ∧ kind ≤ 3
      · exact .inr (.inr ⟨hk, h⟩)
      · exact .inl (winIdx_bad (by omega))
  clear h
  rcases hcase with hk | ⟨hk, hs⟩ | ⟨hk, hs⟩
  · have HK := Lib.hid hk
    clear hk
    go_enter Try.func26, Try.ntmps26
    go_wp2_with fail
    refine (shapes_any _).mono ?_
    rintro e w1 ⟨rfl, rfl⟩
    go_wp2_with fail
    refine (IndexShape_any kind (w.heap.size + 1) w.heap.size _ (heap_two _ _ _) (by simp; omega) (by simp [go_sem]) (-1) HK).mono ?_
    rintro e w1 ⟨rfl, hb1⟩
    go_wp2_with fail
    go_ret2
    exact ⟨none, 0, rfl, World.ownsRow_nil _ _ _ _, (((Below.refl _ _).alloc (Nat.le_refl _) _).alloc (by simp) _).trans (hb1.mono (by simp; omega))⟩
  all_goals
    have HK : Hid (winIdx kind = kind - 1) := winIdx_ok hk.1 hk.2
    obtain ⟨hk1, hk3⟩ := hk
    go_enter Try.func26, Try.ntmps26
    go_wp2_with fail
    refine (shapes_any _).mono ?_
    rintro e w1 ⟨rfl, rfl⟩
    go_wp2_with fail
    refine (IndexShape_any kind (w.heap.size + 1) w.heap.size _ (heap_two _ _ _) (by simp; omega) (by simp [go_sem]) (kind - 1) HK).mono ?_
    rintro e w1 ⟨rfl, hb1⟩
    go_wp2_with fail
    go_ret2
    exact ⟨none, 0, rfl, World.ownsRow_nil _ _ _ _, (((Below.refl _ _).alloc (Nat.le_refl _) _).alloc (by simp) _).trans (hb1.mono (by simp; omega))⟩

set_option maxRecDepth 100000 in
set_option maxHeartbeats 2000000 in
theorem Window_ok (kind : Int) (size : Nat) (w : World) (hk1 : 1 ≤ kind) (hk3 : kind ≤ 3) (hs1 : 1 ≤ size) (hs2 : size ≤ 4096) :
    Calls Try.prog 26 #[.int .i64 kind, .int .i64 size] w (IntsErr 0 (winTo kind size size) w) := by
  obtain ⟨i0, hi0, hz0, hz1, hz2⟩ := info_parts int_info
  have HI := Lib.hid hi0; have HZ0 := Lib.hid hz0; have HZ1 := Lib.hid hz1; have HZ2 := Lib.hid hz2
  clear hi0 hz0 hz1 hz2
  have hcase : kind = 1 ∨ kind = 2 ∨ kind = 3 := by omega
  clear hk1 hk3
  rcases hcase with rfl | rfl | rfl
  · have e1 : decide ((size : Int) < 1) = false := by simp; omega
    have e2 : decide ((4096 : Int) < size) = false := by simp; omega
    go_enter Try.func26, Try.ntmps26
    go_wp2_with fail
    refine (shapes_any _).mono ?_
    rintro e w1 ⟨rfl, rfl⟩
    go_wp2_with fail
    refine (IndexShape_any 1 (w.heap.size + 1) w.heap.size _ (heap_two _ _ _) (by simp; omega) (by simp [go_sem]) 0 (Lib.hid rfl)).mono ?_
    rintro e w1 ⟨rfl, hb1⟩
    have hz := hb1.size
    simp at hz
    have c1 : w1.cell? ⟨w.heap.size + 1, 1, none⟩ = some (.func (.func 42) #[] #[]) := by
      rw [hb1.cell (p := ⟨w.heap.size + 1, 1, none⟩) (by simp)]; simp [go_sem]
    have hbw : Below w.heap.size w w1 := (((Below.refl _ _).alloc (Nat.le_refl _) _).alloc (by simp) _).trans (hb1.mono (by simp; omega))
    clear hb1
    go_wp2_with fail
    clear e1 e2
    go_loopw [8, 9, 25] (fun v _ i wr => ∃ j : Nat, j ≤ size ∧ i = .int .i64 j ∧ ∃ A c, v = .slice A j c ∧ wr.ownsRow w1.heap.size 3 1 (.slice A j c) j (ics (winTo 1 size j)) ∧ Below w1.heap.size w1 wr) (fun _ _ i _ => size - (intOf i).toNat)
    case atStart => exact ⟨0, Nat.zero_le _, rfl, none, 0, rfl, World.ownsRow_nil _ _ _ _, Below.refl _ _⟩
    case round =>
      obtain ⟨j, hj, rfl, A, c, rfl, r1, r2⟩ := hrel
      have q1 : wr.cell? ⟨w.heap.size + 1, 1, none⟩ = some (.func (.func 42) #[] #[]) := (r2.cell (p := ⟨w.heap.size + 1, 1, none⟩) (by show w.heap.size + 1 < _; omega)).trans c1
      by_cases hlt : j < size
      · go_wp2_with (first
          | (go_at_call 42; refine (shapes1_any _ _ _).mono ?_; rintro e w' ⟨rfl, rfl⟩)
          | (at_builtin; refine wpList_append_own_at _ rfl (.tmp 28) (.tmp 41) _ rfl w1.heap.size 3 i0 _ 1 8 Try.underlying22 HI.out HZ0.out HZ1.out HZ2.out rfl (by omega) (.slice A j c) j (ics (winTo 1 size j)) rfl (r1.alloc _) ⟨wr.heap.size, 0, none⟩ 1 1 [.int .i64 (wt 1 size (2 * (j : Int) - ((size : Int) - 1)))] rfl rfl (cell_one_new _ _ _) (by simp [Value.oneCell']) (by unfold maxLen; omega) (by omega) (by simp; exact Nat.le_succ_of_le r2.size) ?_; intro v' w2 hown1 hgrow _ hat))
        obtain ⟨A', c', rfl⟩ := own_slice hown1
        exact ⟨⟨j + 1, by omega, by go_num, A', c', rfl, by rw [winTo_succ]; simpa [ics, winAt] using hown1, (r2.alloc r2.size _).grown hgrow (by simp; exact Nat.le_succ_of_le r2.size) (fun k hk => (r1.lt k hk).1)⟩, by simp [intOf]; omega⟩
      · obtain rfl : j = size := by omega
        go_wp2_with fail
        go_ret2
        exact ⟨A, c, by rw [winTo_length]; rfl, by rw [winTo_length]; exact ownsRow_le r1 (by omega), hbw.trans (r2.mono (by omega))⟩
  · have e1 : decide ((size : Int) < 1) = false := by simp; omega
    have e2 : decide ((4096 : Int) < size) = false := by simp; omega
    go_enter Try.func26, Try.ntmps26
    go_wp2_with fail
    refine (shapes_any _).mono ?_
    rintro e w1 ⟨rfl, rfl⟩
    go_wp2_with fail
    refine (IndexShape_any 2 (w.heap.size + 1) w.heap.size _ (heap_two _ _ _) (by simp; omega) (by simp [go_sem]) 1 (Lib.hid rfl)).mono ?_
    rintro e w1 ⟨rfl, hb1⟩
    have hz := hb1.size
    simp at hz
    have c1 : w1.cell? ⟨w.heap.size + 1, 3, none⟩ = some (.func (.func 43) #[] #[]) := by
      rw [hb1.cell (p := ⟨w.heap.size + 1, 3, none⟩) (by simp)]; simp [go_sem]
    have hbw : Below w.heap.size w w1 := (((Below.refl _ _).alloc (Nat.le_refl _) _).alloc (by simp) _).trans (hb1.mono (by simp; omega))
    clear hb1
    go_wp2_with fail
    clear e1 e2
    go_loopw [8, 9, 25] (fun v _ i wr => ∃ j : Nat, j ≤ size ∧ i = .int .i64 j ∧ ∃ A c, v = .slice A j c ∧ wr.ownsRow w1.heap.size 3 1 (.slice A j c) j (ics (winTo 2 size j)) ∧ Below w1.heap.size w1 wr) (fun _ _ i _ => size - (intOf i).toNat)
    case atStart => exact ⟨0, Nat.zero_le _, rfl, none, 0, rfl, World.ownsRow_nil _ _ _ _, Below.refl _ _⟩
    case round =>
      obtain ⟨j, hj, rfl, A, c, rfl, r1, r2⟩ := hrel
      have q1 : wr.cell? ⟨w.heap.size + 1, 3, none⟩ = some (.func (.func 43) #[] #[]) := (r2.cell (p := ⟨w.heap.size + 1, 3, none⟩) (by show w.heap.size + 1 < _; omega)).trans c1
      by_cases hlt : j < size
      · go_wp2_with (first
          | (go_at_call 43; refine (shapes2_any _ _ _ (by omega) (by omega) (by omega) (by omega)).mono ?_; rintro e w' ⟨rfl, rfl⟩)
          | (at_builtin; refine wpList_append_own_at _ rfl (.tmp 28) (.tmp 41) _ rfl w1.heap.size 3 i0 _ 1 8 Try.underlying22 HI.out HZ0.out HZ1.out HZ2.out rfl (by omega) (.slice A j c) j (ics (winTo 2 size j)) rfl (r1.alloc _) ⟨wr.heap.size, 0, none⟩ 1 1 [.int .i64 (wt 2 size (2 * (j : Int) - ((size : Int) - 1)))] rfl rfl (cell_one_new _ _ _) (by simp [Value.oneCell']) (by unfold maxLen; omega) (by omega) (by simp; exact Nat.le_succ_of_le r2.size) ?_; intro v' w2 hown1 hgrow _ hat))
        obtain ⟨A', c', rfl⟩ := own_slice hown1
        exact ⟨⟨j + 1, by omega, by go_num, A', c', rfl, by rw [winTo_succ]; simpa [ics, winAt] using hown1, (r2.alloc r2.size _).grown hgrow (by simp; exact Nat.le_succ_of_le r2.size) (fun k hk => (r1.lt k hk).1)⟩, by simp [intOf]; omega⟩
      · obtain rfl : j = size := by omega
        go_wp2_with fail
        go_ret2
        exact ⟨A, c, by rw [winTo_length]; rfl, by rw [winTo_length]; exact ownsRow_le r1 (by omega), hbw.trans (r2.mono (by omega))⟩
  · have e1 : decide ((size : Int) < 1) = false := by simp; omega
    have e2 : decide ((4096 : Int) < size) = false := by simp; omega
    go_enter Try.func26, Try.ntmps26
    go_wp2_with fail
    refine (shapes_any _).mono ?_
    rintro e w1 ⟨rfl, rfl⟩
    go_wp2_with fail
    refine (IndexShape_any 3 (w.heap.size + 1) w.heap.size _ (heap_two _ _ _) (by simp; omega) (by simp [go_sem]) 2 (Lib.hid rfl)).mono ?_
    rintro e w1 ⟨rfl, hb1⟩
    have hz := hb1.size
    simp at hz
    have c1 : w1.cell? ⟨w.heap.size + 1, 5, none⟩ = some (.func (.func 44) #[] #[]) := by
      rw [hb1.cell (p := ⟨w.heap.size + 1, 5, none⟩) (by simp)]; simp [go_sem]
    have hbw : Below w.heap.size w w1 := (((Below.refl _ _).alloc (Nat.le_refl _) _).alloc (by simp) _).trans (hb1.mono (by simp; omega))
    clear hb1
    go_wp2_with fail
    clear e1 e2
    go_loopw [8, 9, 25] (fun v _ i wr => ∃ j : Nat, j ≤ size ∧ i = .int .i64 j ∧ ∃ A c, v = .slice A j c ∧ wr.ownsRow w1.heap.size 3 1 (.slice A j c) j (ics (winTo 3 size j)) ∧ Below w1.heap.size w1 wr) (fun _ _ i _ => size - (intOf i).toNat)
    case atStart => exact ⟨0, Nat.zero_le _, rfl, none, 0, rfl, World.ownsRow_nil _ _ _ _, Below.refl _ _⟩
    case round =>
      obtain ⟨j, hj, rfl, A, c, rfl, r1, r2⟩ := hrel
      have q1 : wr.cell? ⟨w.heap.size + 1, 5, none⟩ = some (.func (.func 44) #[] #[]) := (r2.cell (p := ⟨w.heap.size + 1, 5, none⟩) (by show w.heap.size + 1 < _; omega)).trans c1
      by_cases hlt : j < size
      · go_wp2_with (first
          | (go_at_call 44; refine (shapes3_any _ _ _ (by omega) (by omega) (by omega) (by omega)).mono ?_; rintro e w' ⟨rfl, rfl⟩)
          | (at_builtin; refine wpList_append_own_at _ rfl (.tmp 28) (.tmp 41) _ rfl w1.heap.size 3 i0 _ 1 8 Try.underlying22 HI.out HZ0.out HZ1.out HZ2.out rfl (by omega) (.slice A j c) j (ics (winTo 3 size j)) rfl (r1.alloc _) ⟨wr.heap.size, 0, none⟩ 1 1 [.int .i64 (wt 3 size (2 * (j : Int) - ((size : Int) - 1)))] rfl rfl (cell_one_new _ _ _) (by simp [Value.oneCell']) (by unfold maxLen; omega) (by omega) (by simp; exact Nat.le_succ_of_le r2.size) ?_; intro v' w2 hown1 hgrow _ hat))
        obtain ⟨A', c', rfl⟩ := own_slice hown1
        exact ⟨⟨j + 1, by omega, by go_num, A', c', rfl, by rw [winTo_succ]; simpa [ics, winAt] using hown1, (r2.alloc r2.size _).grown hgrow (by simp; exact Nat.le_succ_of_le r2.size) (fun k hk => (r1.lt k hk).1)⟩, by simp [intOf]; omega⟩
      · obtain rfl : j = size := by omega
        go_wp2_with fail
        go_ret2
        exact ⟨A, c, by rw [winTo_length]; rfl, by rw [winTo_length]; exact ownsRow_le r1 (by omega), hbw.trans (r2.mono (by omega))⟩
end Go.Proofs.Ytnflpnbpigcfhaa
