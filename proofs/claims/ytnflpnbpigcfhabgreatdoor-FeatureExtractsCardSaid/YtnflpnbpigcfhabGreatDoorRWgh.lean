/- the reference's Weigh -/
import Derived.Test.YtnflpnbpigcfhabGreatDoorRWin
import Derived.Test.YtnflpnbpigcfhabGreatDoorMa
import Derived.Test.YtnflpnbpigcfhabGreatDoorPWinLaw
namespace Go.Proofs.YtnflpnbpigcfhabGreatDoor
open Go.RowKit Ear

attribute [local go_sem ↓] Go.wp_at_zero Go.wp_at_succ

set_option maxHeartbeats 1000000 in
theorem rWeigh_bad (A : Option Addr) (c : Nat) (l : List Int) (kind : Int) (w : World) (_h : Lies w A (ics l)) (hb : Hid (kind < 1 ∨ 3 < kind ∨ (l.length : Int) < 1 ∨ 4096 < (l.length : Int))) :
    Calls Tryz.prog 35 #[.slice A l.length c, .int .i64 kind] w (IntsBool false [] w) := by
  go_enter Tryz.func35, Tryz.ntmps35
  go_wp2_with fail
  refine (rWindow_bad kind l.length _ hb.out).mono ?_
  rintro e w1 ⟨A1, c1, rfl, ho1, hb1⟩
  go_wp2_with fail
  go_ret2
  exact ⟨none, 0, rfl, World.ownsRow_nil _ _ _ _, hb1⟩

set_option maxHeartbeats 1000000 in
theorem rWeigh_vls (A : Option Addr) (c : Nat) (l : List Int) (kind : Int) (w : World) (h : Lies w A (ics l)) (hk1 : 1 ≤ kind) (hk3 : kind ≤ 3) (hs1 : 1 ≤ l.length) (hs2 : l.length ≤ 4096) (hv : Hid (vls l = false)) :
    Calls Tryz.prog 35 #[.slice A l.length c, .int .i64 kind] w (IntsBool false [] w) := by
  go_enter Tryz.func35, Tryz.ntmps35
  go_wp2_with fail
  refine (rWindow_ok kind l.length _ hk1 hk3 hs1 hs2).mono ?_
  rintro e w1 ⟨A1, c1, rfl, ho1, hb1⟩
  have L1 := Lib.hid (h.below hb1)
  go_wp2_with fail
  refine (rValues_any A c l _ L1.out (by omega) false hv).mono ?_
  rintro e w' ⟨rfl, rfl⟩
  go_wp2_with fail
  go_ret2
  exact ⟨none, 0, rfl, World.ownsRow_nil _ _ _ _, hb1⟩

theorem bel_drew {B : Nat} {a w : World} (h : Below B a w) : Below B a w.drew := ⟨h.os, h.tape, h.output, h.size, h.block⟩
theorem wgh_get {l : List Int} {kind : Int} {j : Nat} : (List.range (j + 1)).map (wghAt l kind) = (List.range j).map (wghAt l kind) ++ [wghAt l kind j] := by
  rw [List.range_succ, List.map_append]; rfl

set_option maxRecDepth 100000 in
set_option maxHeartbeats 2000000 in
theorem rWeigh_ok (A : Option Addr) (c : Nat) (l : List Int) (kind : Int) (w : World) (h : Lies w A (ics l)) (hk1 : 1 ≤ kind) (hk3 : kind ≤ 3) (hs1 : 1 ≤ l.length) (hs2 : l.length ≤ 4096) (hv : Hid (vls l = true)) :
    Calls Tryz.prog 35 #[.slice A l.length c, .int .i64 kind] w (IntsBool true (wgh l kind) w) := by
  obtain ⟨i0, hi0, hz0, hz1, hz2⟩ := info_parts int_info
  have HI := Lib.hid hi0; have HZ0 := Lib.hid hz0; have HZ1 := Lib.hid hz1; have HZ2 := Lib.hid hz2
  clear hi0 hz0 hz1 hz2
  go_enter Tryz.func35, Tryz.ntmps35
  go_wp2_with fail
  refine (rWindow_ok kind l.length _ hk1 hk3 hs1 hs2).mono ?_
  rintro e w1 ⟨A1, c1, rfl, ho1, hb1⟩
  have L1 := Lib.hid (h.below hb1)
  have LW := Lib.hid (Lies.of_own ho1)
  clear ho1
  rw [winTo_length]
  go_wp2_with fail
  refine (rValues_any A c l _ L1.out (by omega) true hv).mono ?_
  rintro e w' ⟨rfl, rfl⟩
  go_wp2_with fail
  go_loopw [8, 9] (fun v i wr => ∃ k : Nat, k ≤ l.length ∧ i = .int .i64 k ∧ ∃ A2 c2, v = .slice A2 k c2 ∧ wr.ownsRow w1.heap.size 3 1 (.slice A2 k c2) k (ics ((List.range k).map (wghAt l kind))) ∧ Below w1.heap.size w1 wr) (fun _ i _ => l.length - (intOf i).toNat)
  case atStart => exact ⟨0, Nat.zero_le _, rfl, none, 0, rfl, World.ownsRow_nil _ _ _ _, Below.refl _ _⟩
  case round =>
    obtain ⟨k, hk, rfl, A2, c2, rfl, r1, r2⟩ := hrel
    by_cases hlt : k < l.length
    · obtain ⟨bk, off, rfl, hbk1, hck1⟩ := L1.out.at_ hlt
      obtain ⟨bw, ofw, rfl, hbw1, hcw1⟩ := LW.out.at_ (k := k) (by rw [winTo_length]; exact hlt)
      rw [winTo_get hlt] at hcw1
      have hz := r2.size
      have hck := (r2.cell (p := ⟨bk, off + k, none⟩) hbk1).trans hck1
      have hcw := (r2.cell (p := ⟨bw, ofw + k, none⟩) hbw1).trans hcw1
      have hbk : bk < wr.heap.size := by omega
      have hbw : bw < wr.heap.size := by omega
      have ag1 : (Value.slice A2 k c2).ownBlock ≠ some bk := fun e => by have := (r1.lt _ e).1; omega
      have ag2 : (Value.slice A2 k c2).ownBlock ≠ some bw := fun e => by have := (r1.lt _ e).1; omega
      clear hck1 hcw1
      have b1 := allR_get hv.out hlt
      have e1 : l[k]?.getD 0 = l[k] := by simp [List.getElem?_eq_getElem hlt]
      rw [← e1] at b1
      clear e1
      have b2 := winAt_bd (kind := kind) (n := l.length) (i := k) (by omega) (by omega)
      have e2 : wghAt l kind k = rnd (l[k]?.getD 0 * winAt kind l.length k) 4096 := rfl
      generalize hx1 : l[k]?.getD 0 = x1 at *
      generalize hx2 : winAt kind l.length k = x2 at *
      have m1 := mul_bd3 (Y := 4096) (X := 2147483647) b2.1 b2.2 b1.1 b1.2 (by omega)
      have p1 : IntKind.i64.wrap (x1 * x2) = x1 * x2 := IntWalk.i64_in _ (by omega)
      have E2 := Lib.hid e2
      clear hx1 hx2 e2
      have n1 : (k : Int) < (l.length : Int) := by omega
      have n2 : (0 : Int) ≤ (k : Int) := by omega
      go_wp2_with fail
      refine wp_region_pop (S := fun w' => w'.cell? ⟨bk, off + k, none⟩ = some (.int .i64 x1) ∧ w'.cell? ⟨bw, ofw + k, none⟩ = some (.int .i64 x2)) 13 (by kernel_rfl) (by kernel_rfl) ⟨hck, hcw⟩ (fun hHeld => ?_)
      simp only [List.pop_toArray, List.dropLast_cons_cons, List.dropLast_singleton]
      refine wpAnyH_takeD (i := 0) 30 (v := ?_) rfl rfl (by kernel_rfl) (by kernel_rfl) (by kernel_rfl) (fun _ _ _ h => h) ⟨by rfl, ?_⟩ hHeld ?_
      rotate_left
      · intro w' hSw; obtain ⟨hS1, hS2⟩ := hSw; go_simp; try with_reducible rfl
      simp only [List.setIfInBounds_toArray, List.set_cons_zero, List.set_cons_succ]
      refine wpAnyH_takeD (i := 1) 31 (v := ?_) rfl rfl (by kernel_rfl) (by kernel_rfl) (by kernel_rfl) (fun _ _ _ h => h) ⟨by rfl, ?_⟩ hHeld ?_
      rotate_left
      · intro w' hSw; obtain ⟨hS1, hS2⟩ := hSw; go_simp; try with_reducible rfl
      simp only [List.setIfInBounds_toArray, List.set_cons_zero, List.set_cons_succ]
      refine wpAnyH_takeD (i := 2) 32 (v := ?_) rfl rfl (by kernel_rfl) (by kernel_rfl) (by kernel_rfl) (fun _ _ _ h => h) ⟨by rfl, ?_⟩ hHeld ?_
      rotate_left
      · intro w' hSw; obtain ⟨hS1, hS2⟩ := hSw; go_simp; try with_reducible rfl
      simp only [List.setIfInBounds_toArray, List.set_cons_zero, List.set_cons_succ]
      refine wpAnyH_takeD (i := 3) 33 (v := ?_) rfl rfl (by kernel_rfl) (by kernel_rfl) (by kernel_rfl) (fun _ _ _ h => h) ⟨by rfl, ?_⟩ hHeld ?_
      rotate_left
      · intro w' hSw; obtain ⟨hS1, hS2⟩ := hSw; go_simp; try with_reducible rfl
      simp only [List.setIfInBounds_toArray, List.set_cons_zero, List.set_cons_succ]
      refine wpAnyH_takeD (i := 4) 34 (v := ?_) rfl rfl (by kernel_rfl) (by kernel_rfl) (by kernel_rfl) (fun _ _ _ h => h) ⟨by rfl, ?_⟩ hHeld ?_
      rotate_left
      · intro w' hSw; obtain ⟨hS1, hS2⟩ := hSw; go_simp; try with_reducible rfl
      simp only [List.setIfInBounds_toArray, List.set_cons_zero, List.set_cons_succ]
      refine wpAnyH_takeD (i := 5) 35 (v := ?_) rfl rfl (by kernel_rfl) (by kernel_rfl) (by kernel_rfl) (fun _ _ _ h => h) ⟨by rfl, ?_⟩ hHeld ?_
      rotate_left
      · intro w' hSw; obtain ⟨hS1, hS2⟩ := hSw; go_simp; try with_reducible rfl
      simp only [List.setIfInBounds_toArray, List.set_cons_zero, List.set_cons_succ]
      refine wpAnyH_takeD (i := 6) 36 (v := ?_) rfl rfl (by kernel_rfl) (by kernel_rfl) (by kernel_rfl) (fun _ _ _ h => h) ⟨by rfl, ?_⟩ hHeld ?_
      rotate_left
      · intro w' hSw; obtain ⟨hS1, hS2⟩ := hSw; go_simp; try with_reducible rfl
      simp only [List.setIfInBounds_toArray, List.set_cons_zero, List.set_cons_succ]
      refine wpAnyH_takeD (i := 7) 37 (v := ?_) rfl rfl (by kernel_rfl) (by kernel_rfl) (by kernel_rfl) (fun _ _ _ h => h) ⟨by rfl, ?_⟩ hHeld ?_
      rotate_left
      · intro w' hSw; obtain ⟨hS1, hS2⟩ := hSw; go_simp; try with_reducible rfl
      simp only [List.setIfInBounds_toArray, List.set_cons_zero, List.set_cons_succ]
      refine wpAnyH_takeD (i := 8) 38 (v := ?_) rfl rfl (by kernel_rfl) (by kernel_rfl) (by kernel_rfl) (fun _ _ _ h => h) ⟨by rfl, ?_⟩ hHeld ?_
      rotate_left
      · intro w' hSw; obtain ⟨hS1, hS2⟩ := hSw; go_simp; try with_reducible rfl
      simp only [List.setIfInBounds_toArray, List.set_cons_zero, List.set_cons_succ]
      refine wpAnyH_takeD (i := 9) 39 (v := ?_) rfl rfl (by kernel_rfl) (by kernel_rfl) (by kernel_rfl) (fun _ _ _ h => h) ⟨by rfl, ?_⟩ hHeld ?_
      rotate_left
      · intro w' hSw; obtain ⟨hS1, hS2⟩ := hSw; go_simp; try with_reducible rfl
      simp only [List.setIfInBounds_toArray, List.set_cons_zero, List.set_cons_succ]
      refine wpAnyH_oneD 10 rfl (by kernel_rfl) rfl (fun K hK => ?_)
      go_simp
      with_reducible refine (Round_any _ _ _ (by omega) (by omega) (by omega) (by omega)).mono ?_
      rintro e w' ⟨rfl, rfl⟩
      refine hK.out _ _ hHeld (fun hHeld => ?_)
      clear hK K
      generalize hxr : rnd (x1 * x2) 4096 = xr at *
      clear hxr p1 m1
      refine wpAnyH_oneD 11 rfl (by kernel_rfl) rfl (fun K hK => ?_)
      go_simp
      refine hK.out _ _ ⟨(World.cell?_of_block (w := wr) (Below.heap_alloc wr _ bk hbk)).trans hck, (World.cell?_of_block (w := wr) (Below.heap_alloc wr _ bw hbw)).trans hcw⟩ (fun hHeld => ?_)
      clear hK K
      refine wpAnyH_oneD 12 rfl (by kernel_rfl) rfl (fun K hK => ?_)
      refine wp_append_liesD _ 42 rfl (.tmp 30) (.tmp 41) 22 rfl w1.heap.size 3 i0 _ 1 8 Tryz.underlying22 HI.out HZ0.out HZ1.out HZ2.out rfl (by omega) (.slice A2 k c2) k (ics ((List.range k).map (wghAt l kind))) rfl ((r1.alloc _).drew)
        ⟨wr.heap.size, 0, none⟩ 1 1 [.int .i64 xr] rfl rfl (World.news_of_block (cs := #[.int .i64 xr]) (t := 3) (fr := (0, 0)) (heap_alloc_new wr _)) (by simp [Value.oneCell']) (by omega) (by unfold maxLen; omega) (by omega) (by simp; exact Nat.le_succ_of_le r2.size) (wr.heap.size + 1) (by simp) ?_
      intro gg cap w2 hown1 hgrow hat hlt'
      refine hK.out _ _ ⟨(hgrow.cell_far ⟨bk, off + k, none⟩ (by simp; omega) (Ne.symm ag1)).trans ((World.cell?_of_block (w := wr) (Below.heap_alloc wr _ bk hbk)).trans hck), (hgrow.cell_far ⟨bw, ofw + k, none⟩ (by simp; omega) (Ne.symm ag2)).trans ((World.cell?_of_block (w := wr) (Below.heap_alloc wr _ bw hbw)).trans hcw)⟩ (fun hHeld => ?_)
      clear hK K
      simp only [List.setIfInBounds_toArray, List.set_cons_zero, List.set_cons_succ]
      refine wpAnyH_done (by kernel_rfl) ?_ _
      refine PopQ.last rfl rfl (fun K hK => ?_)
      go_simp
      refine hK _ _ ?_
      clear hK K
      go_wp2_with fail
      go_roundw
      case rel =>
        exact ⟨k + 1, by omega, by go_num, some ⟨gg, 0, none⟩, cap, rfl, by rw [wgh_get, E2.out]; simpa [ics] using hown1, (bel_drew (r2.alloc r2.size _)).grown hgrow (by simp; exact Nat.le_succ_of_le r2.size) (fun k hk => (r1.lt k hk).1)⟩
      case measure => simp [intOf]; omega
    · obtain rfl : k = l.length := by omega
      go_wp2_with fail
      go_ret2
      exact ⟨A2, c2, by rw [wgh_length]; rfl, by rw [wgh_length]; exact ownsRow_le r1 hb1.size, hb1.trans (r2.mono hb1.size)⟩
end Go.Proofs.YtnflpnbpigcfhabGreatDoor
