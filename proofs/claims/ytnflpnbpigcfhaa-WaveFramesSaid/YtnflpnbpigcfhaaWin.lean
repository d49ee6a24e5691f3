/- wave.Window -/
import Derived.Test.YtnflpnbpigcfhaaEmph
import Derived.Test.YtnflpnbpigcfhaaPWin
namespace Go.Proofs.Ytnflpnbpigcfhaa
open Go.RowKit Ear

abbrev shapeCells : Array Value := #[.int .i64 1, .func (.func 42) #[] #[], .int .i64 2, .func (.func 43) #[] #[], .int .i64 3, .func (.func 44) #[] #[]]

set_option maxHeartbeats 400000 in
theorem shapes_any (w : World) : Calls Try.prog 34 #[] w fun e w' => e = .returned (.slice (some ⟨w.heap.size, 0, none⟩) 3 3) ∧ w.alloc (.cells shapeCells 72) = w' := by
  go_enter Try.func34, Try.ntmps34
  go_wp2_with fail
  go_ret
  exact ⟨rfl, rfl⟩

set_option maxHeartbeats 400000 in
theorem shapes1_any (n d : Int) (w : World) : Calls Try.prog 42 #[.int .i64 n, .int .i64 d] w fun e w' => e = .returned (.int .i64 (wt 1 n d)) ∧ w = w' := by
  go_enter Try.func42, Try.ntmps42
  go_wp2_with fail
  go_ret
  exact ⟨rfl, rfl⟩

theorem wt2_pos {n d : Int} (h : 0 ≤ d) : wt 2 n d = rnd (4096 * (n + 1 - d)) (n + 1) := by
  unfold wt; rw [if_neg (by omega), if_pos rfl, show max d (-d) = d by omega]
theorem wt2_neg {n d : Int} (h : d < 0) : wt 2 n d = rnd (4096 * (n + 1 + d)) (n + 1) := by
  unfold wt; rw [if_neg (by omega), if_pos rfl, show n + 1 - max d (-d) = n + 1 + d by omega]

set_option maxHeartbeats 400000 in
theorem shapes2_any (n d : Int) (w : World) (hn : 1 ≤ n) (hn' : n ≤ 4096) (hd : -n ≤ d) (hd' : d ≤ n) : Calls Try.prog 43 #[.int .i64 n, .int .i64 d] w fun e w' => e = .returned (.int .i64 (wt 2 n d)) ∧ w = w' := by
  by_cases h0 : 0 ≤ d
  · go_enter Try.func43, Try.ntmps43
    go_wp2_with (go_at_call 23; refine (rounded_any _ _ _ (by omega) (by omega) (by omega) (by omega)).mono ?_; rintro e w' ⟨rfl, rfl⟩)
    all_goals
      go_ret
      exact ⟨ret_int (by rw [wt2_pos h0]), rfl⟩
  · go_enter Try.func43, Try.ntmps43
    go_wp2_with (go_at_call 23; refine (rounded_any _ _ _ (by omega) (by omega) (by omega) (by omega)).mono ?_; rintro e w' ⟨rfl, rfl⟩)
    all_goals
      go_ret
      exact ⟨ret_int (by rw [wt2_neg (by omega)]), rfl⟩

set_option maxHeartbeats 400000 in
theorem shapes3_any (n d : Int) (w : World) (hn : 1 ≤ n) (hn' : n ≤ 4096) (hd : -n ≤ d) (hd' : d ≤ n) : Calls Try.prog 44 #[.int .i64 n, .int .i64 d] w fun e w' => e = .returned (.int .i64 (wt 3 n d)) ∧ w = w' := by
  have h1 := sq_bd hd hd'
  have h2 : n * n ≤ 4096 * 4096 := Int.mul_le_mul hn' hn' (by omega) (by omega)
  have h3 : (n + 1) * (n + 1) = n * n + 2 * n + 1 := by rw [Int.add_mul, Int.mul_add]; omega
  have h4 : 4 ≤ (n + 1) * (n + 1) := Int.mul_le_mul (a := 2) (c := n + 1) (b := 2) (d := n + 1) (by omega) (by omega) (by omega) (by omega)
  have h5 : (n + 1) * (n + 1) ≤ 17000000 := by omega
  have h6 : 0 ≤ (n + 1) * (n + 1) - d * d := by omega
  clear h3
  go_enter Try.func44, Try.ntmps44
  go_wp2_with fail
  refine (rounded_any _ _ _ (by omega) (by omega) (by omega) (by omega)).mono ?_
  rintro e w' ⟨rfl, rfl⟩
  go_wp2_with fail
  go_ret
  exact ⟨rfl, rfl⟩

set_option maxHeartbeats 400000 in
theorem Window1_any (k kind : Int) (f : Value) (b : Nat) (w : World) (hb : b < w.heap.size) (hc : w.cell? ⟨b, 0, none⟩ = some (.int .i64 kind)) (r : Bool) (hr : (k == kind) = r) :
    Calls Try.prog 36 #[.agg #[.int .i64 k, f], .pointer (some ⟨b, 0, none⟩)] w fun e w' => e = .returned (.bool r) ∧ Below w.heap.size w w' := by
  subst hr
  go_enter Try.func36, Try.ntmps36
  go_wp2_with fail
  go_ret
  exact ⟨rfl, (Below.refl _ _).alloc (Nat.le_refl _) _⟩

/-- which window has this kind -/
def winIdx (kind : Int) : Int := if kind = 1 then 0 else if kind = 2 then 1 else if kind = 3 then 2 else -1
theorem winIdx_1 : winIdx 1 = 0 := rfl

set_option maxRecDepth 100000 in
set_option maxHeartbeats 1000000 in
theorem IndexShape_any (kind : Int) (g b : Nat) (w : World) (hg : w.heap[g]? = some (.cells shapeCells 72)) (hb : b < w.heap.size) (hc : w.cell? ⟨b, 0, none⟩ = some (.int .i64 kind)) (r : Int) (hr : Hid (winIdx kind = r)) :
    Calls Try.prog 35 #[.slice (some ⟨g, 0, none⟩) 3 3, .func (.func 36) #[] #[.pointer (some ⟨b, 0, none⟩)]] w fun e w' => e = .returned (.int .i64 r) ∧ Below w.heap.size w w' := by
  have hgl : g < w.heap.size := (Array.getElem?_eq_some_iff.1 hg).1
  have HG := Lib.hid hg
  clear hg
  go_enter Try.func35, Try.ntmps35
  go_wp2_with fail
  go_loopw [5, 8] (fun _ i wr => ∃ k : Nat, k ≤ 3 ∧ i = .int .i64 k ∧ Hid (∀ j : Nat, j < k → kind ≠ (j : Int) + 1) ∧ Below w.heap.size w wr) (fun _ i _ => 3 - (intOf i).toNat)
  case atStart => exact ⟨0, Nat.zero_le _, rfl, fun j hj => absurd hj (by omega), Below.refl _ _⟩
  case round =>
    obtain ⟨k, hk, rfl, hp, hbw⟩ := hrel
    have hcell : ∀ o, wr.cell? ⟨g, o, none⟩ = shapeCells[o]? := fun o => by rw [hbw.cell (p := ⟨g, o, none⟩) hgl]; exact cell_of_row w g o _ _ _ HG.out
    have hc' : wr.cell? ⟨b, 0, none⟩ = some (.int .i64 kind) := (hbw.cell (p := ⟨b, 0, none⟩) hb).trans hc
    have hb' : b < wr.heap.size := Nat.lt_of_lt_of_le hb hbw.size
    rcases (show k = 0 ∨ k = 1 ∨ k = 2 ∨ k = 3 by omega) with rfl | rfl | rfl | rfl
    · have c0 : wr.cell? ⟨g, 0, none⟩ = some (.int .i64 1) := hcell 0
      have c1 : wr.cell? ⟨g, 1, none⟩ = some (.func (.func 42) #[] #[]) := hcell 1
      clear hcell
      by_cases hk0 : (1 : Int) = kind
      · have hz : r = 0 := by rw [← hr.out, ← hk0]; rfl
        subst hz
        have hbe : ((1 : Int) == kind) = true := by simp [hk0]
        clear hk0
        go_wp2_with fail
        refine (Window1_any 1 kind _ b _ hb' hc' true hbe).mono ?_
        rintro e w1 ⟨rfl, hb1⟩
        go_wp2_with fail
        go_ret
        exact ⟨rfl, hbw.trans (hb1.mono hbw.size)⟩
      · have hbe : ((1 : Int) == kind) = false := by simp [hk0]
        have hp' : Hid (∀ j : Nat, j < 1 → kind ≠ (j : Int) + 1) := fun j hj => by
          rcases (show j < 0 ∨ j = 0 by omega) with h1 | h1
          · exact hp.out j h1
          · subst h1; intro e; apply hk0; omega
        clear hk0
        go_wp2_with fail
        refine (Window1_any 1 kind _ b _ hb' hc' false hbe).mono ?_
        rintro e w1 ⟨rfl, hb1⟩
        go_wp2_with fail
        go_roundw
        case rel => exact ⟨1, by omega, by go_num, hp', hbw.trans (hb1.mono hbw.size)⟩
        case measure => simp [intOf]
    · have c0 : wr.cell? ⟨g, 2, none⟩ = some (.int .i64 2) := hcell 2
      have c1 : wr.cell? ⟨g, 3, none⟩ = some (.func (.func 43) #[] #[]) := hcell 3
      clear hcell
      by_cases hk0 : (2 : Int) = kind
      · have hz : r = 1 := by rw [← hr.out, ← hk0]; rfl
        subst hz
        have hbe : ((2 : Int) == kind) = true := by simp [hk0]
        clear hk0
        go_wp2_with fail
        refine (Window1_any 2 kind _ b _ hb' hc' true hbe).mono ?_
        rintro e w1 ⟨rfl, hb1⟩
        go_wp2_with fail
        go_ret
        exact ⟨rfl, hbw.trans (hb1.mono hbw.size)⟩
      · have hbe : ((2 : Int) == kind) = false := by simp [hk0]
        have hp' : Hid (∀ j : Nat, j < 2 → kind ≠ (j : Int) + 1) := fun j hj => by
          rcases (show j < 1 ∨ j = 1 by omega) with h1 | h1
          · exact hp.out j h1
          · subst h1; intro e; apply hk0; omega
        clear hk0
        go_wp2_with fail
        refine (Window1_any 2 kind _ b _ hb' hc' false hbe).mono ?_
        rintro e w1 ⟨rfl, hb1⟩
        go_wp2_with fail
        go_roundw
        case rel => exact ⟨2, by omega, by go_num, hp', hbw.trans (hb1.mono hbw.size)⟩
        case measure => simp [intOf]
    · have c0 : wr.cell? ⟨g, 4, none⟩ = some (.int .i64 3) := hcell 4
      have c1 : wr.cell? ⟨g, 5, none⟩ = some (.func (.func 44) #[] #[]) := hcell 5
      clear hcell
      by_cases hk0 : (3 : Int) = kind
      · have hz : r = 2 := by rw [← hr.out, ← hk0]; rfl
        subst hz
        have hbe : ((3 : Int) == kind) = true := by simp [hk0]
        clear hk0
        go_wp2_with fail
        refine (Window1_any 3 kind _ b _ hb' hc' true hbe).mono ?_
        rintro e w1 ⟨rfl, hb1⟩
        go_wp2_with fail
        go_ret
        exact ⟨rfl, hbw.trans (hb1.mono hbw.size)⟩
      · have hbe : ((3 : Int) == kind) = false := by simp [hk0]
        have hp' : Hid (∀ j : Nat, j < 3 → kind ≠ (j : Int) + 1) := fun j hj => by
          rcases (show j < 2 ∨ j = 2 by omega) with h1 | h1
          · exact hp.out j h1
          · subst h1; intro e; apply hk0; omega
        clear hk0
        go_wp2_with fail
        refine (Window1_any 3 kind _ b _ hb' hc' false hbe).mono ?_
        rintro e w1 ⟨rfl, hb1⟩
        go_wp2_with fail
        go_roundw
        case rel => exact ⟨3, by omega, by go_num, hp', hbw.trans (hb1.mono hbw.size)⟩
        case measure => simp [intOf]
    · clear hcell
      have hz : r = -1 := by
        rw [← hr.out]
        have h0 := hp.out 0 (by omega)
        have h1 := hp.out 1 (by omega)
        have h2 := hp.out 2 (by omega)
        unfold winIdx
        rw [if_neg (by omega), if_neg (by omega), if_neg (by omega)]
      subst hz
      go_wp2_with fail
      go_ret
      exact ⟨rfl, hbw⟩
end Go.Proofs.Ytnflpnbpigcfhaa
