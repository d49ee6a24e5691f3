/- WaveStores: the walk -/
import Derived.Test.YtnhkngmdjomfjaaLUnp
namespace Go.Proofs.Ytnhkngmdjomfjaa
open Go.RowKit Ear

/-- a changed byte is not what it was -/
theorem byte_add_ne {x by_ : Int} (hb : 0 ≤ by_ ∧ by_ ≤ 255) (hne : by_ ≠ 0) : (x + by_) % 256 ≠ x := by omega
theorem isB_set {l : List Int} (h : isB l) {k : Nat} {y : Int} (hy : 0 ≤ y ∧ y ≤ 255) : isB (l.set k y) := fun x hx => by
  rcases List.mem_or_eq_of_mem_set hx with h1 | h1
  · exact h x h1
  · rw [h1]; exact hy
set_option maxRecDepth 100000 in
set_option maxHeartbeats 2000000 in
theorem WaveStores_far (rate : Int) (A : Option Addr) (c : Nat) (l : List Int) (at_ by_ : Int) (w : World) (h : Lies w A (ics l)) (hn : l.length ≤ 9223372036854775807) (hh : 3000 < l.length ∨ (l.length ≤ 3000 ∧ Hid (decide (chk rate l = 0) = false))) :
    Calls Try.prog 20 #[recV rate A l.length c, .int .i64 at_, .int .u8 by_] w fun e w' => e = .returned (.bool true) ∧ Below w.heap.size w w' := by
  have D0 := Lib.hid (((Led.nil w).add h).alloc (.cells #[.int .i64 rate, .slice A l.length c] 24) |>.row (heap_alloc_new w _))
  clear h
  rcases hh with h1 | ⟨h1, h2⟩
  · go_enter Try.func20, Try.ntmps20
    go_wp2_with fail
    refine (known2_any _).mono ?_
    rintro e w7 ⟨rfl, hb7⟩
    go_wp2_with fail
    go_ret
    exact ⟨rfl, bel_trans D0.out.bel hb7⟩
  · go_enter Try.func20, Try.ntmps20
    go_wp2_with fail
    refine (rValid_any rate A c l _ (D0.out.lies 0 _ _ rfl) (by omega) false h2).mono ?_
    rintro e w1 ⟨rfl, hb1⟩
    have D1 := Lib.hid (D0.out.below hb1)
    clear hb1
    go_wp2_with fail
    refine (known2_any _).mono ?_
    rintro e w7 ⟨rfl, hb7⟩
    go_wp2_with fail
    go_ret
    exact ⟨rfl, bel_trans D1.out.bel hb7⟩

set_option maxRecDepth 100000 in
set_option maxHeartbeats 4000000 in
theorem WaveStores_ok (rate : Int) (A : Option Addr) (c : Nat) (l : List Int) (at_ by_ : Int) (w : World) (h : Lies w A (ics l)) (hl : l.length ≤ 3000) (hc : Hid (chk rate l = 0)) (hby : 0 ≤ by_ ∧ by_ ≤ 255) :
    Calls Try.prog 20 #[recV rate A l.length c, .int .i64 at_, .int .u8 by_] w fun e w' => e = .returned (.bool true) ∧ Below w.heap.size w w' := by
  have DA := Lib.hid ((Led.nil w).add h)
  have D0 := Lib.hid (DA.out.alloc (.cells #[.int .i64 rate, .slice A l.length c] 24) |>.row (heap_alloc_new w _))
  clear h
  have HV : Hid (decide (chk rate l = 0) = true) := Lib.hid (by rw [hc.out]; rfl)
  have hpl := packB_len rate l
  obtain ⟨hok, hr, _, hun⟩ := pack_ok hc.out
  have HPB : Hid (isB (packB rate l)) := Lib.hid (fun x hx => packB_mem hx)
  have hlen : (packB rate l).length / 2 - 8 = l.length := by omega
  have HU : Hid (∀ A1 c1 W, Lies W A1 (bcs (packB rate l)) → (packB rate l).length ≤ c1 → Calls Try.prog 59 #[.slice A1 (packB rate l).length c1] W (RecRet rate 0 l W)) := Lib.hid (fun A1 c1 W hW hc1 => by
    have := Unpack_yes A1 c1 (packB rate l) W hW HPB hc1 (by omega) hok
    rw [hr, hlen, hun] at this
    exact this)
  have HN : Hid (∀ A1 c1 W k y, Lies W A1 (bcs ((packB rate l).set k y)) → (packB rate l).length ≤ c1 → (hk : k < (packB rate l).length) → 0 ≤ y ∧ y ≤ 255 → y ≠ (packB rate l)[k] → Calls Try.prog 59 #[.slice A1 (packB rate l).length c1] W (RecRet 0 4 [] W)) := Lib.hid (fun A1 c1 W k y hW hc1 hk hy hne => by
    have := Unpack_no A1 c1 ((packB rate l).set k y) W hW (Lib.hid (isB_set HPB.out hy)) (by simpa using hc1) (by simp; omega) (ok_change (fun x hx => HPB.out x hx) hok hk hy hne)
    rw [List.length_set] at this
    exact this)
  have HP : Hid (∀ W, Lies W A (ics l) → Calls Try.prog 47 #[recV rate A l.length c] W (BytesErr 0 (packB rate l) W)) := Lib.hid (fun W hW => Pack_ok rate A c l W hW hc)
  generalize packB rate l = ys at *
  have hyl : ys.length ≤ 6016 ∧ 16 ≤ ys.length := by omega
  clear hpl hok hr hun hlen
  go_enter Try.func20, Try.ntmps20
  go_wp2_with fail
  refine (rValid_any rate A c l _ (D0.out.lies 0 _ _ rfl) (by omega) true HV).mono ?_
  rintro e w1 ⟨rfl, hb1⟩
  have D1 := Lib.hid (D0.out.below hb1)
  have hs1 := hb1.size
  simp only [World.size_alloc] at hs1
  clear hb1
  have q0 := D1.out.cell 1 rfl 0 rfl
  have q1 := D1.out.cell 1 rfl 1 rfl
  simp only [Nat.add_zero, Nat.zero_add] at q0 q1
  go_wp2_with fail
  refine (HP.out _ (D1.out.lies 0 _ _ rfl)).mono ?_
  rintro e w2 ⟨A2, c2, rfl, hown2, hb2⟩
  have D2 := Lib.hid (D1.out.below hb2)
  obtain ⟨g2, cap2, hv2, hg2, _⟩ := hown2.form (by omega)
  injection hv2 with hv2 _ hv3
  subst hv2 hv3
  have OW2 := Lib.hid hown2
  have hcap := own_cap hown2
  have hs2 := hb2.size
  clear hb2 hown2 q0 q1
  go_wp2_with fail
  refine (HU.out _ _ _ (Lies.of_own OW2.out) hcap).mono ?_
  rintro e w3 ⟨A3, c3, rfl, hown3, hb3⟩
  have D3 := Lib.hid (D2.out.below hb3)
  have OW3 := Lib.hid (own_below OW2.out hb3)
  have L3 := Lib.hid (Lies.of_own hown3)
  have hs3 := hb3.size
  have hlt3 : w.heap.size < w3.heap.size := by omega
  clear hb3 hown3 OW2
  have q0 := D3.out.cell 1 rfl 0 rfl
  have q1 := D3.out.cell 1 rfl 1 rfl
  simp only [Nat.add_zero, Nat.zero_add] at q0 q1
  go_wp2_with fail
  refine (same_bel A3 A c3 c l l _ ((L3.out.alloc _)) ((D3.out.alloc _).lies 0 _ _ rfl) (by omega) (by omega) true (Lib.hid (by simp))).mono ?_
  rintro e w4 ⟨rfl, hb4⟩
  have D4 := Lib.hid ((D3.out.alloc _).below hb4)
  have OW4 := Lib.hid (own_below (OW3.out.alloc _) hb4)
  have hs4 := hb4.size
  simp only [World.size_alloc] at hs4
  clear hb4 OW3 L3 D3 q0 q1 D2
  by_cases hskip : at_ < 0 ∨ (ys.length : Int) ≤ at_ ∨ by_ = 0
  · have hb0 : by_ = 0 → (by_ == 0) = true := fun e => by rw [e]; rfl
    have hb1 : ¬ by_ = 0 → (by_ == 0) = false := fun e => by simpa using e
    by_cases h1 : at_ < 0
    · clear hb0 hb1
      go_wp2_with fail
      refine (known2_any _).mono ?_
      rintro e w7 ⟨rfl, hb7⟩
      go_wp2_with fail
      go_ret
      exact ⟨rfl, bel_trans D4.out.bel hb7⟩
    by_cases h2 : (ys.length : Int) ≤ at_
    · clear hb0 hb1
      go_wp2_with fail
      refine (known2_any _).mono ?_
      rintro e w7 ⟨rfl, hb7⟩
      go_wp2_with fail
      go_ret
      exact ⟨rfl, bel_trans D4.out.bel hb7⟩
    have h3 := hb0 (by omega)
    clear hb0 hb1
    go_wp2_with fail
    refine (known2_any _).mono ?_
    rintro e w7 ⟨rfl, hb7⟩
    go_wp2_with fail
    go_ret
    exact ⟨rfl, bel_trans D4.out.bel hb7⟩
  · have h3 : (by_ == 0) = false := by simp; omega
    obtain ⟨k, rfl⟩ := Int.eq_ofNat_of_zero_le (show 0 ≤ at_ by omega)
    have hk : k < ys.length := by omega
    have hcell : w4.cell? ⟨g2, k, none⟩ = some (.int .u8 ys[k]) := by
      have := OW4.out.cells (g := g2) rfl k (.int .u8 ys[k]) (by simp [List.getElem?_eq_getElem hk])
      rwa [Addr.add_lit, Nat.zero_add] at this
    have hfz := OW4.out.frozenAt k
    have hx := HPB.out _ (List.getElem_mem hk)
    have HNE := Lib.hid (byte_add_ne (x := ys[k]) hby (by omega))
    have HYK := Lib.hid (show 0 ≤ (ys[k] + by_) % 256 ∧ (ys[k] + by_) % 256 ≤ 255 by omega)
    have hk0 : (0 : Int) ≤ k := by omega
    have hk1 : (k : Int) < ys.length := by omega
    clear hskip
    go_wp2_with fail
    have hst := OW4.out.stored k (.int .u8 ((ys[k] + by_) % 256))
    have hset : (bcs ys).set k (.int .u8 ((ys[k] + by_) % 256)) = bcs (ys.set k ((ys[k] + by_) % 256)) := by rw [bcs, bcs, List.map_set]
    rw [hset] at hst
    have B5 := Lib.hid (D4.out.bel.setCell (p := ⟨g2, k, none⟩) (by show w.heap.size ≤ g2; omega) (.int .u8 ((ys[k] + by_) % 256)))
    refine (HN.out _ _ _ k _ (Lies.of_own hst.1) hcap hk HYK.out HNE.out).mono ?_
    rintro e w5 ⟨A5, c5, rfl, _, hb5⟩
    have B6 := Lib.hid (B5.out.trans (hb5.mono B5.out.size))
    simp only [List.length_nil]
    clear hb5 hst hset OW4 hcell hfz
    go_wp2_with fail
    refine (known2_any _).mono ?_
    rintro e w7 ⟨rfl, hb7⟩
    go_wp2_with fail
    go_ret
    exact ⟨rfl, bel_trans (bel_alloc B6.out _) hb7⟩

theorem WaveStores_any (rate : Int) (A : Option Addr) (c : Nat) (l : List Int) (at_ by_ : Int) (w : World) (h : Lies w A (ics l)) (hn : l.length ≤ 9223372036854775807) (hby : 0 ≤ by_ ∧ by_ ≤ 255) :
    Calls Try.prog 20 #[recV rate A l.length c, .int .i64 at_, .int .u8 by_] w fun e w' => e = .returned (.bool true) ∧ Below w.heap.size w w' := by
  by_cases h1 : 3000 < l.length
  · exact WaveStores_far rate A c l at_ by_ w h hn (.inl h1)
  by_cases h2 : chk rate l = 0
  · exact WaveStores_ok rate A c l at_ by_ w h (by omega) (Lib.hid h2) hby
  · exact WaveStores_far rate A c l at_ by_ w h hn (.inr ⟨by omega, Lib.hid (by simpa using h2)⟩)
end Go.Proofs.Ytnhkngmdjomfjaa
