/- known: the chapter's examples hold -/
import Derived.Test.YtnflpnbpigcfhaaKnownA
namespace Go.Proofs.Ytnflpnbpigcfhaa
open Go.RowKit Ear

theorem bel_trans {w w1 w2 : World} (h1 : Below w.heap.size w w1) (h2 : Below w1.heap.size w1 w2) : Below w.heap.size w w2 := h1.trans (h2.mono h1.size)
theorem bel_alloc {w w1 : World} (h1 : Below w.heap.size w w1) (o : Obj) : Below w.heap.size w (w1.alloc o) := h1.alloc h1.size o
theorem row_keep {w w' : World} {g : Nat} {t : TypeId} {cs : Array Value} (h : w.heap[g]? = some (.cells cs t (0, 0))) (hb : Below w.heap.size w w') : w'.heap[g]? = some (.cells cs t (0, 0)) := (hb.block g (row_lt h)).trans h
theorem row_alloc {w : World} {g : Nat} {t : TypeId} {cs : Array Value} (h : w.heap[g]? = some (.cells cs t (0, 0))) (o : Obj) : (w.alloc o).heap[g]? = some (.cells cs t (0, 0)) := (Below.heap_alloc w o g (row_lt h)).trans h

set_option maxHeartbeats 400000 in
theorem gate2_any (w : World) : Calls Try.prog 17 #[] w fun e w' => e = .returned (.agg #[.int .i64 1, .int .i64 50, .int .i64 10, .int .i64 2, .int .i64 2, .int .i64 0, .int .i64 100]) ∧ Below w.heap.size w w' := by
  go_enter Try.func17, Try.ntmps17
  go_wp2_with fail
  exact bodyPost_ret (v := .agg #[.int .i64 1, .int .i64 50, .int .i64 10, .int .i64 2, .int .i64 2, .int .i64 0, .int .i64 100]) (by simp [results, Try.results17, go_sem]) rfl ⟨rfl, (Below.refl _ _).alloc (Nat.le_refl _) _⟩

theorem below_drewN (w : World) (n : Nat) : Below w.heap.size w (w.drewN n) := ⟨rfl, rfl, rfl, Nat.le_refl _, fun _ _ => rfl⟩
theorem same_bel (A B : Option Addr) (c d : Nat) (a b : List Int) (w : World) (ha : Lies w A (ics a)) (hb : Lies w B (ics b)) (hna : a.length ≤ 1000000) (hnb : b.length ≤ 1000000) (r : Bool) (hr : Hid (decide (a = b) = r)) :
    Calls Try.prog 11 #[.slice A a.length c, .slice B b.length d] w fun e w' => e = .returned (.bool r) ∧ Below w.heap.size w w' :=
  (Same_any A B c d a b w ha hb (by omega) (by omega) r hr).mono fun _ _ ⟨he, n, hn⟩ => ⟨he, by rw [hn]; exact below_drewN w n⟩
theorem sames_bel (A B : Option Addr) (c d : Nat) (a b : List (Int × Int)) (w : World) (ha : Lies w A (scs a)) (hb : Lies w B (scs b)) (hna : a.length ≤ 1000000) (hnb : b.length ≤ 1000000) (r : Bool) (hr : Hid (decide (a = b) = r)) :
    Calls Try.prog 18 #[.slice A a.length c, .slice B b.length d] w fun e w' => e = .returned (.bool r) ∧ Below w.heap.size w w' :=
  (SameSegments_any A B c d a b w ha hb (by omega) (by omega) r hr).mono fun _ _ ⟨he, n, hn⟩ => ⟨he, by rw [hn]; exact below_drewN w n⟩

set_option maxRecDepth 100000 in
set_option maxHeartbeats 2000000 in
theorem known2_any (w : World) : Calls Try.prog 6 #[] w fun e w' => e = .returned (.bool true) ∧ Below w.heap.size w w' := by
  go_enter Try.func6, Try.ntmps6
  go_wp2_with fail
  refine (k_res1 w.heap.size _ (heap_alloc_new w _)).mono ?_
  rintro e w1 ⟨A1, c1, rfl, ho1, hb1⟩
  have B1 := Lib.hid (bel_trans (bel_alloc (Below.refl _ w) _) hb1)
  have L1 := Lib.hid (Lies.of_own ho1)
  simp only [List.length_cons, List.length_nil, Nat.zero_add, Nat.reduceAdd]
  clear hb1 ho1
  go_wp2_with fail
  refine (k_res2 (w1.heap.size + 1) _ (heap_two _ _ _)).mono ?_
  rintro e w2 ⟨A2, c2, rfl, ho2, hb2⟩
  have B2 := Lib.hid (bel_trans (bel_alloc (bel_alloc B1.out _) _) hb2)
  have L1' := Lib.hid (((L1.out.alloc _).alloc _).below hb2)
  have R1 := Lib.hid (row_keep (row_alloc (heap_alloc_new w1 _) _) hb2)
  have L2 := Lib.hid (Lies.of_own ho2)
  simp only [List.length_cons, List.length_nil, Nat.zero_add, Nat.reduceAdd]
  clear hb2 ho2 L1 B1
  go_wp2_with fail
  refine (k_emp (w2.heap.size + 1) _ (heap_two _ _ _)).mono ?_
  rintro e w3 ⟨A3, c3, rfl, ho3, hb3⟩
  have B3 := Lib.hid (bel_trans (bel_alloc (bel_alloc B2.out _) _) hb3)
  have L1 := Lib.hid (((L1'.out.alloc _).alloc _).below hb3)
  have R1' := Lib.hid (row_keep (row_alloc (row_alloc R1.out _) _) hb3)
  have L2' := Lib.hid (((L2.out.alloc _).alloc _).below hb3)
  have R2 := Lib.hid (row_keep (row_alloc (heap_alloc_new w2 _) _) hb3)
  have L3 := Lib.hid (Lies.of_own ho3)
  simp only [List.length_cons, List.length_nil, Nat.zero_add, Nat.reduceAdd]
  clear hb3 ho3 L1' R1 L2 B2
  go_wp2_with fail
  refine (k_wgh w3.heap.size _ (heap_alloc_new w3 _)).mono ?_
  rintro e w4 ⟨A4, c4, rfl, ho4, hb4⟩
  have B4 := Lib.hid (bel_trans (bel_alloc B3.out _) hb4)
  have L1' := Lib.hid ((L1.out.alloc _).below hb4)
  have R1 := Lib.hid (row_keep (row_alloc R1'.out _) hb4)
  have L2 := Lib.hid ((L2'.out.alloc _).below hb4)
  have R2' := Lib.hid (row_keep (row_alloc R2.out _) hb4)
  have L3' := Lib.hid ((L3.out.alloc _).below hb4)
  have L4 := Lib.hid (Lies.of_own ho4)
  simp only [List.length_cons, List.length_nil, Nat.zero_add, Nat.reduceAdd]
  clear hb4 ho4 L1 R1' L2' R2 L3 B3
  go_wp2_with fail
  refine (gate2_any _).mono ?_
  rintro e w5 ⟨rfl, hb5⟩
  have B5 := Lib.hid (bel_trans (bel_alloc B4.out _) hb5)
  have L1 := Lib.hid ((L1'.out.alloc _).below hb5)
  have R1' := Lib.hid (row_keep (row_alloc R1.out _) hb5)
  have L2' := Lib.hid ((L2.out.alloc _).below hb5)
  have R2 := Lib.hid (row_keep (row_alloc R2'.out _) hb5)
  have L3 := Lib.hid ((L3'.out.alloc _).below hb5)
  have L4' := Lib.hid ((L4.out.alloc _).below hb5)
  have R5 := Lib.hid (row_keep (heap_alloc_new w4 _) hb5)
  clear hb5 L1' R1 L2 R2' L3' L4 B4
  go_wp2_with fail
  refine (k_seg w4.heap.size _ R5.out).mono ?_
  rintro e w6 ⟨A6, c6, rfl, ho6, hb6⟩
  have B6 := Lib.hid (bel_trans B5.out hb6)
  have L1' := Lib.hid (L1.out.below hb6)
  have R1 := row_keep R1'.out hb6
  have L2 := Lib.hid (L2'.out.below hb6)
  have R2' := row_keep R2.out hb6
  have L3' := Lib.hid (L3.out.below hb6)
  have L4 := Lib.hid (L4'.out.below hb6)
  have L6 := Lib.hid (Lies.of_own ho6)
  simp only [List.length_cons, List.length_nil, Nat.zero_add]
  clear hb6 ho6 L1 R1' L2' R2 L3 L4' R5 B5
  have q0 := cell_of_row w6 _ 0 _ _ _ R1
  have q1 := cell_of_row w6 _ 1 _ _ _ R1
  have q2 := cell_of_row w6 _ 0 _ _ _ R2'
  have q3 := cell_of_row w6 _ 1 _ _ _ R2'
  simp at q0 q1 q2 q3
  have hz1 := row_lt R1
  have hz2 := row_lt R2'
  clear R1 R2'
  go_wp2_with fail
  refine (same_bel A1 _ c1 4 [0, 2, 4, 4] [0, 2, 4, 4] _ (L1'.out.alloc _) (lies_row (heap_alloc_new w6 _) rfl) (by decide) (by decide) true (Lib.hid (by decide))).mono ?_
  rintro e w7 ⟨rfl, hb7⟩
  have B7 := Lib.hid (bel_trans (bel_alloc B6.out _) hb7)
  have L2' := Lib.hid ((L2.out.alloc _).below hb7)
  have L3 := Lib.hid ((L3'.out.alloc _).below hb7)
  have L4' := Lib.hid ((L4.out.alloc _).below hb7)
  have L6' := Lib.hid ((L6.out.alloc _).below hb7)
  have y2 : w7.cell? ⟨w2.heap.size, 0, none⟩ = some (.int .i64 2) := (hb7.cell (p := ⟨w2.heap.size, 0, none⟩) (by simp; omega)).trans ((World.cell?_of_block (w := w6) (Below.heap_alloc w6 _ w2.heap.size hz2)).trans q2)
  have y3 : w7.cell? ⟨w2.heap.size, 1, none⟩ = some (.slice A2 2 c2) := (hb7.cell (p := ⟨w2.heap.size, 1, none⟩) (by simp; omega)).trans ((World.cell?_of_block (w := w6) (Below.heap_alloc w6 _ w2.heap.size hz2)).trans q3)
  clear hb7 B6 L2 L3' L4 L6 q0 q1 q2 q3 hz1 hz2 L1'
  go_wp2_with fail
  refine (same_bel A2 _ c2 2 [2, 4] [2, 4] _ (L2'.out.alloc _) (lies_row (heap_alloc_new w7 _) rfl) (by decide) (by decide) true (Lib.hid (by decide))).mono ?_
  rintro e w8 ⟨rfl, hb8⟩
  have B8 := Lib.hid (bel_trans (bel_alloc B7.out _) hb8)
  have L3' := Lib.hid ((L3.out.alloc _).below hb8)
  have L4 := Lib.hid ((L4'.out.alloc _).below hb8)
  have L6 := Lib.hid ((L6'.out.alloc _).below hb8)
  clear hb8 B7 L2' L3 L4' L6' y2 y3
  go_wp2_with fail
  refine (same_bel A3 _ c3 3 [10, 5, -12] [10, 5, -12] _ (L3'.out.alloc _) (lies_row (heap_alloc_new w8 _) rfl) (by decide) (by decide) true (Lib.hid (by decide))).mono ?_
  rintro e w9 ⟨rfl, hb9⟩
  have B9 := Lib.hid (bel_trans (bel_alloc B8.out _) hb9)
  have L4' := Lib.hid ((L4.out.alloc _).below hb9)
  have L6' := Lib.hid ((L6.out.alloc _).below hb9)
  clear hb9 B8 L3' L4 L6
  go_wp2_with fail
  refine (same_bel A4 _ c4 3 [50, 100, -2] [50, 100, -2] _ (L4'.out.alloc _) (lies_row (heap_alloc_new w9 _) rfl) (by decide) (by decide) true (Lib.hid (by decide))).mono ?_
  rintro e w10 ⟨rfl, hb10⟩
  have B10 := Lib.hid (bel_trans (bel_alloc B9.out _) hb10)
  have L6 := Lib.hid ((L6'.out.alloc _).below hb10)
  clear hb10 B9 L4' L6'
  go_wp2_with fail
  refine (sames_bel A6 _ c6 1 [(2, 5)] [(2, 5)] _ (L6.out.alloc _) (lies_row (heap_alloc_new w10 _) rfl) (by decide) (by decide) true (Lib.hid (by decide))).mono ?_
  rintro e w11 ⟨rfl, hb11⟩
  have B11 := Lib.hid (bel_trans (bel_alloc B10.out _) hb11)
  go_wp2_with fail
  go_ret
  exact ⟨rfl, B11.out⟩
end Go.Proofs.Ytnflpnbpigcfhaa
