/- WaveOrder: the walk -/
import Derived.Test.YtnhkngmdjomfjaaLSeg
import Derived.Test.YtnhkngmdjomfjaaPOrd
namespace Go.Proofs.Ytnhkngmdjomfjaa
open Go.RowKit Ear

/-- all samples up tt k are loud, and there are enough of them -/
def ldTo (H R : Int) (x : List Int) (k : Nat) : Bool := decide (R ≤ x.length) && (x.take k).all (fun v => decide (H ≤ v * v))
theorem ldTo_succ {H R : Int} {x : List Int} {k : Nat} (hk : k < x.length) : ldTo H R x (k + 1) = (ldTo H R x k && decide (H ≤ x[k]?.getD 0 * x[k]?.getD 0)) := by
  unfold ldTo
  rw [List.take_succ_eq_append_getElem hk, List.all_append]
  simp [List.getElem?_eq_getElem hk, Bool.and_assoc]
theorem ldTo_all {H R : Int} {x : List Int} (h : ldTo H R x x.length = true) : R ≤ x.length ∧ ∀ v ∈ x, H ≤ v * v := by
  unfold ldTo at h
  rw [List.take_length, Bool.and_eq_true] at h
  exact ⟨by simpa using h.1, fun v hv => by simpa using List.all_eq_true.1 h.2 v hv⟩

set_option maxRecDepth 100000 in
set_option maxHeartbeats 2000000 in
theorem WaveOrder_no (g : Gt) (A : Option Addr) (c : Nat) (x : List Int) (w : World) (h : Lies w A (ics x))
    (hh : 3000 < x.length ∨ (x.length ≤ 3000 ∧ Hid (decide g.ok = false)) ∨ (x.length ≤ 3000 ∧ Hid (decide g.ok = true) ∧ Hid (smp x = false))) :
    Calls Try.prog 8 #[.slice A x.length c, gateV g] w fun e w' => e = .returned (.bool true) ∧ Below w.heap.size w w' := by
  have HL := Lib.hid (fun o => h.alloc (w := w) o)
  rcases hh with hl | ⟨hl, h1⟩ | ⟨hl, h1, h2⟩
  · go_enter Try.func8, Try.ntmps8
    go_wp2_with fail
    refine (known2_any _).mono ?_
    rintro e w7 ⟨rfl, hb7⟩
    go_wp2_with fail
    go_ret
    exact ⟨rfl, bel_trans (bel_alloc (Below.refl _ w) _) hb7⟩
  · go_enter Try.func8, Try.ntmps8
    go_wp2_with fail
    refine (rGate_any g _ false h1).mono ?_
    rintro e w1 ⟨rfl, hb1⟩
    have B1 := Lib.hid (bel_trans (bel_alloc (Below.refl _ w) _) hb1)
    clear hb1
    go_wp2_with fail
    refine (known2_any _).mono ?_
    rintro e w7 ⟨rfl, hb7⟩
    go_wp2_with fail
    go_ret
    exact ⟨rfl, bel_trans B1.out hb7⟩
  · go_enter Try.func8, Try.ntmps8
    go_wp2_with fail
    refine (rGate_any g _ true h1).mono ?_
    rintro e w1 ⟨rfl, hb1⟩
    have B1 := Lib.hid (bel_trans (bel_alloc (Below.refl _ w) _) hb1)
    have L1 := Lib.hid ((HL.out _).below hb1)
    clear hb1
    go_wp2_with fail
    refine (All_any A c x _ _ _ L1.out (by omega) false h2).mono ?_
    rintro e w0 ⟨rfl, rfl⟩
    go_wp2_with fail
    refine (known2_any _).mono ?_
    rintro e w7 ⟨rfl, hb7⟩
    go_wp2_with fail
    go_ret
    exact ⟨rfl, bel_trans B1.out hb7⟩

set_option maxRecDepth 100000 in
set_option maxHeartbeats 4000000 in
theorem WaveOrder_ok (g : Gt) (B : Nat) (A : Option Addr) (c : Nat) (x : List Int) (w : World) (h : Lies w A (ics x)) (hA : A = none → c = 0) (hl : x.length ≤ 3000)
    (hg : Hid (decide g.ok = true)) (hB : Hid (g.block = B)) (hv : Hid (smp x = true)) (out : List (Int × Int)) (hout : Hid (segsOf g B x = out)) (hgood : Hid (SegsGood B g.longest x.length out))
    (hfirst : Hid (ldTo g.high (g.rise * B) x x.length = true → ∃ t l, out = (0, t) :: l)) :
    Calls Try.prog 8 #[.slice A x.length c, gateV g] w fun e w' => e = .returned (.bool true) ∧ Below w.heap.size w w' := by
  have HL := Lib.hid (fun o => h.alloc (w := w) o)
  have HA := Lib.hid hA
  have hgo : Hid g.ok := Lib.hid (by simpa using hg.out)
  have hol := segsOf_len g B x
  rw [hout.out] at hol
  have HSG : Hid (∀ w, Lies w A (ics x) → Calls Try.prog 30 #[.slice A x.length c, gateV g] w (SegRet 0 out w)) := Lib.hid fun w h => by
    rw [← hout.out]; exact Segments_ok g B A c x w h hA hv (by omega) hgo hB
  clear hA h
  obtain ⟨g1, g2, g3, g4, g5, g6, g7⟩ := g
  have hB' : g1 = B := hB.out
  subst hB'
  obtain ⟨b1, b2, b3, b4, b5, b6, b7, b8, b9, b10, b11, b12, b13⟩ := hgo.out
  simp only at b1 b2 b3 b4 b5 b6 b7 b8 b9 b10 b11 b12 b13
  have e0 : decide ((3000 : Int) < x.length) = false := by simp; omega
  go_enter Try.func8, Try.ntmps8
  go_wp2_with fail
  refine (rGate_any ⟨B, g2, g3, g4, g5, g6, g7⟩ _ true hg).mono ?_
  rintro e w1 ⟨rfl, hb1⟩
  have B1 := Lib.hid (bel_trans (bel_alloc (Below.refl _ w) _) hb1)
  have L1 := Lib.hid ((HL.out _).below hb1)
  have R1 := row_keep (heap_alloc_new w _) hb1
  have q0 := cell_of_row w1 _ 0 _ _ _ R1
  have q1 := cell_of_row w1 _ 1 _ _ _ R1
  have q2 := cell_of_row w1 _ 2 _ _ _ R1
  have q3 := cell_of_row w1 _ 3 _ _ _ R1
  have q4 := cell_of_row w1 _ 4 _ _ _ R1
  have q5 := cell_of_row w1 _ 5 _ _ _ R1
  have q6 := cell_of_row w1 _ 6 _ _ _ R1
  simp at q0 q1 q2 q3 q4 q5 q6
  have HR1 := Lib.hid R1
  clear hb1 R1
  go_wp2_with fail
  refine (All_any A c x _ _ _ L1.out (by omega) true hv).mono ?_
  rintro e w0 ⟨rfl, rfl⟩
  go_wp2_with fail
  refine (HSG.out _ L1.out).mono ?_
  rintro e V ⟨A1, c1, rfl, ho1, hb2⟩
  have BV := Lib.hid (bel_trans B1.out hb2)
  have LX := Lib.hid (L1.out.below hb2)
  have LO := Lib.hid (Lies.of_own ho1)
  have RV := Lib.hid (row_keep HR1.out hb2)
  clear hb2 ho1 q0 q1 q2 q3 q4 q5 q6 HR1 L1 B1
  go_wp2_with fail
  clear e0
  go_loopw [7, 8, 9] (fun t7 t8 _ wr => ∃ k : Nat, k ≤ out.length ∧ t8 = .int .i64 k ∧ t7 = .int .i64 (prevTo out k) ∧ Below V.heap.size V wr) (fun _ t8 _ _ => out.length - (intOf t8).toNat)
  case atStart => exact ⟨0, Nat.zero_le _, rfl, rfl, Below.refl _ _⟩
  case round =>
    obtain ⟨k, hk, rfl, rfl, r2⟩ := hrel
    have RW := row_keep RV.out r2
    have q0 := cell_of_row wr _ 0 _ _ _ RW
    have q1 := cell_of_row wr _ 1 _ _ _ RW
    have q3 := cell_of_row wr _ 3 _ _ _ RW
    have q6 := cell_of_row wr _ 6 _ _ _ RW
    simp at q0 q1 q3 q6
    have hzw := row_lt RW
    have HRW := Lib.hid RW
    clear RW
    by_cases hlt : k < out.length
    · obtain ⟨bs, os, rfl, hbs, hcs, hcs'⟩ := (LO.out.below r2).seg hlt
      have hgd := hgood.out k hlt
      have e1 : out[k]?.getD (0, 0) = out[k] := by simp [List.getElem?_eq_getElem hlt]
      have e2 : prevTo out (k + 1) = out[k].2 := by simp only [prevTo]; rw [e1]
      rw [e1] at hgd
      clear e1
      generalize hs : out[k] = sg at *
      obtain ⟨fr, tt⟩ := sg
      obtain ⟨h1, h2, h3, h4, h5, h6⟩ := hgd
      simp only at h1 h2 h3 h4 h5 h6 hcs hcs' e2
      have E2 := Lib.hid e2
      have hp7 := mul_bd3 (x := g7 + 1) (y := (B : Int)) (X := 100001) (Y := 4096) (by omega) (by omega) (by omega) (by omega) (by omega)
      generalize prevTo out k = last at *
      have d1 : decide (fr < last) = false := by simp; omega
      have d2 : decide (tt ≤ fr) = false := by simp; omega
      have d3 : decide ((x.length : Int) < tt) = false := by simp; omega
      have d4 : (fr % (B : Int) != 0) = false := by simp [h4]
      have d5 : decide ((g7 + 1) * (B : Int) ≤ tt - fr) = false := by simp; omega
      clear h4 e2 hs
      go_wp2_with fail
      go_roundw
      case rel => exact ⟨k + 1, by omega, by go_num, by rw [E2.out], r2.alloc r2.size _⟩
      case measure => simp [intOf]; omega
    · have hp4 := mul_bd3 (x := g4) (y := (B : Int)) (X := 1000) (Y := 4096) (by omega) (by omega) (by omega) (by omega) (by omega)
      have LXr := Lib.hid (LX.out.below r2)
      have LOr := Lib.hid (LO.out.below r2)
      have BW := Lib.hid (bel_trans BV.out r2)
      have HF := hfirst.out
      generalize hld0 : decide (g4 * (B : Int) ≤ (x.length : Int)) = ld0
      have HLD : Hid (ldTo g2 (g4 * (B : Int)) x 0 = ld0) := by show ldTo _ _ _ _ = _; unfold ldTo; rw [hld0]; simp
      have HF2 := Lib.hid HF
      clear HF r2
      go_wp2_with fail
      clear hld0 hk hlt
      go_loopw [10, 11] (fun t10 t11 wx => ∃ j : Nat, j ≤ x.length ∧ t11 = .int .i64 j ∧ t10 = .bool (ldTo g2 (g4 * (B : Int)) x j) ∧ ∃ n, wx = wr.drewN n) (fun _ t11 _ => x.length - (intOf t11).toNat)
      case atStart => exact ⟨0, Nat.zero_le _, rfl, by rw [HLD.out], 0, rfl⟩
      case round =>
        obtain ⟨j, hj, rfl, rfl, n, rfl⟩ := hrel
        by_cases hlt : j < x.length
        · obtain ⟨b1, o1, rfl, hb1, hc1⟩ := LXr.out.at_ hlt
          have hsx := allR_get hv.out hlt
          have e1 : x[j]?.getD 0 = x[j] := by simp [List.getElem?_eq_getElem hlt]
          rw [← e1] at hsx
          have E1 := Lib.hid (ldTo_succ (H := g2) (R := g4 * (B : Int)) hlt)
          clear e1
          generalize hx1 : x[j]?.getD 0 = x1 at *
          generalize hld : ldTo g2 (g4 * (B : Int)) x j = ld at *
          have hsq := sq_bd (d := x1) (n := 32768) (by omega) (by omega)
          have p1 : IntKind.i64.wrap (x1 * x1) = x1 * x1 := IntWalk.i64_in _ (by omega)
          have n1 : (j : Int) < (x.length : Int) := by omega
          have n2 : (0 : Int) ≤ (j : Int) := by omega
          clear hx1 hld
          cases ld with
          | false =>
            go_wp2_with fail
            go_quiet (fail)
            clear p1
            go_wp2_with fail
            go_roundw
            case rel => exact ⟨j + 1, by omega, by go_num, by rw [E1.out]; rfl, _, rfl⟩
            case measure => simp [intOf]; omega
          | true =>
            go_wp2_with fail
            go_quiet (fail)
            clear p1
            go_wp2_with fail
            go_roundw
            case rel => exact ⟨j + 1, by omega, by go_num, by rw [E1.out]; simp, _, rfl⟩
            case measure => simp [intOf]; omega
        · obtain rfl : j = x.length := by omega
          have HF := HF2.out
          generalize ldTo g2 (g4 * (B : Int)) x x.length = ld at *
          cases ld with
          | false =>
            go_wp2_with fail
            refine (known2_any _).mono ?_
            rintro e w7 ⟨rfl, hb7⟩
            go_wp2_with fail
            go_ret
            exact ⟨rfl, bel_trans (bel_trans BW.out (below_drewN wr _)) hb7⟩
          | true =>
            obtain ⟨t0, l0, hl0⟩ := HF rfl
            subst hl0
            obtain ⟨bs, os, rfl, hbs, hcs, hcs'⟩ := LOr.out.seg (k := 0) (by simp)
            simp at hcs hcs'
            clear HF hj hlt
            go_wp2_with fail
            refine (known2_any _).mono ?_
            rintro e w7 ⟨rfl, hb7⟩
            go_wp2_with fail
            go_ret
            exact ⟨rfl, bel_trans (bel_trans BW.out (below_drewN wr _)) hb7⟩

theorem WaveOrder_any (g : Gt) (A : Option Addr) (c : Nat) (x : List Int) (w : World) (h : Lies w A (ics x)) (hA : A = none → c = 0) :
    Calls Try.prog 8 #[.slice A x.length c, gateV g] w fun e w' => e = .returned (.bool true) ∧ Below w.heap.size w w' := by
  by_cases hl : 3000 < x.length
  · exact WaveOrder_no g A c x w h (.inl hl)
  cases hg : decide g.ok with
  | false => exact WaveOrder_no g A c x w h (.inr (.inl ⟨by omega, Lib.hid hg⟩))
  | true =>
    cases hv : smp x with
    | false => exact WaveOrder_no g A c x w h (.inr (.inr ⟨by omega, Lib.hid hg, Lib.hid hv⟩))
    | true =>
      have hgo : g.ok := by simpa using hg
      obtain ⟨B, hB⟩ := Int.eq_ofNat_of_zero_le (show 0 ≤ g.block by have := hgo.1; omega)
      refine WaveOrder_ok g B A c x w h hA (by omega) (Lib.hid hg) (Lib.hid hB) (Lib.hid hv) _ (Lib.hid rfl) (Lib.hid ?_) (Lib.hid fun hld => ?_)
      · have := ord_all hgo hB x _ rfl
        rw [hB] at this
        unfold segsOf segSt
        rw [hB]
        exact this
      · obtain ⟨h1, h2⟩ := ldTo_all hld
        exact loud_first hgo hB x h2 (by rw [hB]; exact h1) _ rfl
end Go.Proofs.Ytnhkngmdjomfjaa
