/- WavePacks: the walk -/
import Derived.Test.YtnhkngmdjomfjaaRPack
import Derived.Test.YtnhkngmdjomfjaaMeas2
import Derived.Laws.IdiomStrings
namespace Go.Proofs.Ytnhkngmdjomfjaa
open Go.RowKit Ear

/-- bytes as a string -/
def strB (l : List Int) : ByteArray := ⟨(l.map fun n => UInt8.ofNat n.toNat).toArray⟩
theorem conv_bytes (w : World) (a : Addr) (l : List Int) (c : Nat) (h : Lies w (some a) (bcs l)) (hb : isB l) :
    (convert 76 9 (.slice (some a) l.length c)).run Try.prog w = .ok (.string (strB l)) w := by
  have := run_convert_bytes_back (P := Try.prog) w 76 9 5 a c (l.map fun n => UInt8.ofNat n.toNat) Try.underlying76 Try.underlying5 Try.underlying9 (fun j hj => by
    simp at hj
    have hx := hb _ (List.getElem_mem hj)
    rw [h.cells_add j (.int .u8 l[j]) (by simp [List.getElem?_eq_getElem hj])]
    simp
    omega)
  rw [List.length_map] at this
  exact this

set_option maxRecDepth 100000 in
set_option maxHeartbeats 2000000 in
theorem WavePacks_far (rate : Int) (A : Option Addr) (c : Nat) (l : List Int) (w : World) (hb : Hid (decide ((l.length : Int) ≤ 3000 ∨ (200000 < (l.length : Int) ∧ (l.length : Int) < 250000)) = false)) :
    Calls Try.prog 15 #[recV rate A l.length c] w fun e w' => e = .returned (.bool true) ∧ Below w.heap.size w w' := by
  go_enter Try.func15, Try.ntmps15
  go_wp2_with fail
  refine (short_any _ _ false hb).mono ?_
  rintro e w0 ⟨rfl, rfl⟩
  go_wp2_with fail
  refine (known2_any _).mono ?_
  rintro e w7 ⟨rfl, hb7⟩
  go_wp2_with fail
  go_ret
  exact ⟨rfl, bel_trans (bel_alloc (Below.refl _ w) _) hb7⟩

set_option maxRecDepth 100000 in
set_option maxHeartbeats 2000000 in
theorem WavePacks_no (rate : Int) (A : Option Addr) (c : Nat) (l : List Int) (w : World) (h : Lies w A (ics l)) (hb : Hid (decide ((l.length : Int) ≤ 3000 ∨ (200000 < (l.length : Int) ∧ (l.length : Int) < 250000)) = true)) (hl : l.length ≤ 250000) (r : Int) (hr : Hid (chk rate l = r)) (hne : Hid ((r != 0) = true)) :
    Calls Try.prog 15 #[recV rate A l.length c] w fun e w' => e = .returned (.bool true) ∧ Below w.heap.size w w' := by
  have D0 := Lib.hid (((Led.nil w).add h).alloc (.cells #[.int .i64 rate, .slice A l.length c] 24) |>.row (heap_alloc_new w _))
  clear h
  have HV : Hid (decide (chk rate l = 0) = false) := Lib.hid (by rw [hr.out]; have := hne.out; simpa using this)
  go_enter Try.func15, Try.ntmps15
  go_wp2_with fail
  refine (short_any _ _ true hb).mono ?_
  rintro e w0 ⟨rfl, rfl⟩
  go_wp2_with fail
  refine (Pack_no rate A c l _ (D0.out.lies 0 _ _ rfl) (by omega) r hr hne).mono ?_
  rintro e w1 ⟨A1, c1, rfl, _, hb1⟩
  have D1 := Lib.hid (D0.out.below hb1)
  simp only [List.length_nil]
  clear hb1 D0
  go_wp2_with fail
  have S1 : Hid (w1.cell? ⟨w.heap.size, 0, none⟩ = some (.int .i64 rate) ∧ w1.cell? ⟨w.heap.size, 1, none⟩ = some (.slice A l.length c)) := Lib.hid ⟨by simpa using D1.out.cell 1 rfl 0 rfl, by simpa using D1.out.cell 1 rfl 1 rfl⟩
  go_cut [3, 4, 21] (fun t3 t4 t21 wx => t3 = .slice A1 0 c1 ∧ t4 = .int .i64 r ∧ t21 = .bool false ∧ Below w1.heap.size w1 wx)
  case first =>
    go_region_held3 (fun w' => w'.cell? ⟨w.heap.size, 0, none⟩ = some (.int .i64 rate) ∧ w'.cell? ⟨w.heap.size, 1, none⟩ = some (.slice A l.length c))
      (first | exact S1.out | exact SV.out | exact SR.out | exact SVR.out | exact SRV.out)
      (first
        | (go_at_call 48; refine (wValid_any rate A c l _ ?_ (by omega) false HV).mono ?_; (first | exact DR.out.lies 0 _ _ rfl | exact (D1.out.lies 0 _ _ rfl).drew); rintro e wv ⟨rfl, hbv⟩; (first | (have DVR := Lib.hid (DR.out.below hbv); have SVR : Hid (wv.cell? ⟨w.heap.size, 0, none⟩ = some (.int .i64 rate) ∧ wv.cell? ⟨w.heap.size, 1, none⟩ = some (.slice A l.length c)) := Lib.hid ⟨by simpa using DVR.out.cell 1 rfl 0 rfl, by simpa using DVR.out.cell 1 rfl 1 rfl⟩) | (have DV := Lib.hid (D1.out.drew.below hbv); have SV : Hid (wv.cell? ⟨w.heap.size, 0, none⟩ = some (.int .i64 rate) ∧ wv.cell? ⟨w.heap.size, 1, none⟩ = some (.slice A l.length c)) := Lib.hid ⟨by simpa using DV.out.cell 1 rfl 0 rfl, by simpa using DV.out.cell 1 rfl 1 rfl⟩)))
        | (go_at_call 26; refine (rValid_any rate A c l _ ?_ (by omega) false HV).mono ?_; (first | exact DV.out.lies 0 _ _ rfl | exact (D1.out.lies 0 _ _ rfl).drew); rintro e wr ⟨rfl, hbr⟩; (first | (have DRV := Lib.hid (DV.out.below hbr); have SRV : Hid (wr.cell? ⟨w.heap.size, 0, none⟩ = some (.int .i64 rate) ∧ wr.cell? ⟨w.heap.size, 1, none⟩ = some (.slice A l.length c)) := Lib.hid ⟨by simpa using DRV.out.cell 1 rfl 0 rfl, by simpa using DRV.out.cell 1 rfl 1 rfl⟩) | (have DR := Lib.hid (D1.out.drew.below hbr); have SR : Hid (wr.cell? ⟨w.heap.size, 0, none⟩ = some (.int .i64 rate) ∧ wr.cell? ⟨w.heap.size, 1, none⟩ = some (.slice A l.length c)) := Lib.hid ⟨by simpa using DR.out.cell 1 rfl 0 rfl, by simpa using DR.out.cell 1 rfl 1 rfl⟩))))
    all_goals
      go_wp2_with fail
      go_meet
      exact ⟨rfl, rfl, rfl, below_undrew (hbv.trans (hbr.mono hbv.size))⟩
  case rest =>
    obtain ⟨rfl, rfl, rfl, BX⟩ := hcut
    rename_i wx
    have D2 := Lib.hid (D1.out.below BX)
    clear BX D1 S1
    have q0 := D2.out.cell 1 rfl 0 rfl
    have q1 := D2.out.cell 1 rfl 1 rfl
    simp only [Nat.add_zero, Nat.zero_add] at q0 q1
    have hne' := hne.out
    go_wp2_with fail
    refine (rWrong_any rate A c l _ (D2.out.lies 0 _ _ rfl) (by omega) r hr).mono ?_
    rintro e w2 ⟨rfl, hb2⟩
    have D3 := Lib.hid (D2.out.below hb2)
    clear hb2 D2 q0 q1
    go_wp2_with fail
    refine (known2_any _).mono ?_
    rintro e w7 ⟨rfl, hb7⟩
    go_wp2_with fail
    go_ret
    exact ⟨rfl, bel_trans D3.out.bel hb7⟩

set_option maxRecDepth 100000 in
set_option maxHeartbeats 4000000 in
theorem WavePacks_ok (rate : Int) (A : Option Addr) (c : Nat) (l : List Int) (w : World) (h : Lies w A (ics l)) (hb : Hid (decide ((l.length : Int) ≤ 3000 ∨ (200000 < (l.length : Int) ∧ (l.length : Int) < 250000)) = true)) (hl : l.length ≤ 250000) (hr : Hid (chk rate l = 0)) :
    Calls Try.prog 15 #[recV rate A l.length c] w fun e w' => e = .returned (.bool true) ∧ Below w.heap.size w w' := by
  have D0 := Lib.hid (((Led.nil w).add h).alloc (.cells #[.int .i64 rate, .slice A l.length c] 24) |>.row (heap_alloc_new w _))
  clear h
  have HV : Hid (decide (chk rate l = 0) = true) := Lib.hid (by rw [hr.out]; rfl)
  go_enter Try.func15, Try.ntmps15
  go_wp2_with fail
  refine (short_any _ _ true hb).mono ?_
  rintro e w0 ⟨rfl, rfl⟩
  go_wp2_with fail
  refine (Pack_ok rate A c l _ (D0.out.lies 0 _ _ rfl) hr).mono ?_
  rintro e w1 ⟨A1, c1, rfl, hown1, hb1⟩
  have HPB : Hid (isB (packB rate l)) := Lib.hid (fun x hx => packB_mem hx)
  have hpl := packB_len rate l
  generalize hye : packB rate l = ys at *
  have HYE := Lib.hid hye
  clear hye
  obtain ⟨g1, cap1, hv1, _, _⟩ := hown1.form (by omega)
  injection hv1 with hv1 _ hv3
  subst hv1 hv3
  have hpl2 : ys.length ≤ 600016 := by omega
  have hpl3 : 0 < ys.length := by omega
  clear hpl
  have OW1 := Lib.hid hown1
  have D1 := Lib.hid (D0.out.below hb1)
  clear hb1 D0 hown1
  go_wp2_with fail
  have S1 : Hid (w1.cell? ⟨w.heap.size, 0, none⟩ = some (.int .i64 rate) ∧ w1.cell? ⟨w.heap.size, 1, none⟩ = some (.slice A l.length c)) := Lib.hid ⟨by simpa using D1.out.cell 1 rfl 0 rfl, by simpa using D1.out.cell 1 rfl 1 rfl⟩
  go_cut [3, 4, 21] (fun t3 t4 t21 wx => t3 = .slice (some ⟨g1, 0, none⟩) ys.length c1 ∧ t4 = .int .i64 0 ∧ t21 = .bool false ∧ Below w1.heap.size w1 wx)
  case first =>
    go_region_held3 (fun w' => w'.cell? ⟨w.heap.size, 0, none⟩ = some (.int .i64 rate) ∧ w'.cell? ⟨w.heap.size, 1, none⟩ = some (.slice A l.length c))
      (first | exact S1.out | exact SV.out | exact SR.out | exact SVR.out | exact SRV.out)
      (first
        | (go_at_call 48; refine (wValid_any rate A c l _ ?_ (by omega) true HV).mono ?_; (first | exact DR.out.lies 0 _ _ rfl | exact (D1.out.lies 0 _ _ rfl).drew); rintro e wv ⟨rfl, hbv⟩; (first | (have DVR := Lib.hid (DR.out.below hbv); have SVR : Hid (wv.cell? ⟨w.heap.size, 0, none⟩ = some (.int .i64 rate) ∧ wv.cell? ⟨w.heap.size, 1, none⟩ = some (.slice A l.length c)) := Lib.hid ⟨by simpa using DVR.out.cell 1 rfl 0 rfl, by simpa using DVR.out.cell 1 rfl 1 rfl⟩) | (have DV := Lib.hid (D1.out.drew.below hbv); have SV : Hid (wv.cell? ⟨w.heap.size, 0, none⟩ = some (.int .i64 rate) ∧ wv.cell? ⟨w.heap.size, 1, none⟩ = some (.slice A l.length c)) := Lib.hid ⟨by simpa using DV.out.cell 1 rfl 0 rfl, by simpa using DV.out.cell 1 rfl 1 rfl⟩)))
        | (go_at_call 26; refine (rValid_any rate A c l _ ?_ (by omega) true HV).mono ?_; (first | exact DV.out.lies 0 _ _ rfl | exact (D1.out.lies 0 _ _ rfl).drew); rintro e wr ⟨rfl, hbr⟩; (first | (have DRV := Lib.hid (DV.out.below hbr); have SRV : Hid (wr.cell? ⟨w.heap.size, 0, none⟩ = some (.int .i64 rate) ∧ wr.cell? ⟨w.heap.size, 1, none⟩ = some (.slice A l.length c)) := Lib.hid ⟨by simpa using DRV.out.cell 1 rfl 0 rfl, by simpa using DRV.out.cell 1 rfl 1 rfl⟩) | (have DR := Lib.hid (D1.out.drew.below hbr); have SR : Hid (wr.cell? ⟨w.heap.size, 0, none⟩ = some (.int .i64 rate) ∧ wr.cell? ⟨w.heap.size, 1, none⟩ = some (.slice A l.length c)) := Lib.hid ⟨by simpa using DR.out.cell 1 rfl 0 rfl, by simpa using DR.out.cell 1 rfl 1 rfl⟩))))
    all_goals
      go_wp2_with fail
      go_meet
      exact ⟨rfl, rfl, rfl, below_undrew (hbv.trans (hbr.mono hbv.size))⟩
  case rest =>
    obtain ⟨rfl, rfl, rfl, BX⟩ := hcut
    rename_i wx
    have D2 := Lib.hid (D1.out.below BX)
    have BX2 := BX
    clear BX D1 S1
    have q0 := D2.out.cell 1 rfl 0 rfl
    have q1 := D2.out.cell 1 rfl 1 rfl
    simp only [Nat.add_zero, Nat.zero_add] at q0 q1
    have OW2 := Lib.hid (own_below OW1.out BX2)
    go_wp2_with fail
    refine (rWrong_any rate A c l _ (D2.out.lies 0 _ _ rfl) (by omega) 0 hr).mono ?_
    rintro e w2 ⟨rfl, hb2⟩
    have D3 := Lib.hid (D2.out.below hb2)
    have OW3 := Lib.hid (own_below OW2.out hb2)
    clear hb2 D2 q0 q1 OW2 OW1 BX2
    go_wp2_with fail
    have q0 := D3.out.cell 1 rfl 0 rfl
    have q1 := D3.out.cell 1 rfl 1 rfl
    simp only [Nat.add_zero, Nat.zero_add] at q0 q1
    have C3 := conv_bytes w2.drew ⟨g1, 0, none⟩ ys c1 (Lies.of_own OW3.out).drew HPB.out
    have HRP : Hid (∀ W, Lies W A (ics l) → Calls Try.prog 49 #[recV rate A l.length c] W (BytesRet ys W)) := Lib.hid (fun W h => by rw [← HYE.out]; exact rPack_ok rate A c l W h hr)
    go_region_with (first
        | (go_at_call 49; refine (HRP.out _ ((D3.out.lies 0 _ _ rfl).drew)).mono ?_; rintro e w4 ⟨A4, c4, rfl, hown4, hb4⟩; obtain ⟨g4, cap4, hv4, _, _⟩ := hown4.form (by omega); injection hv4 with hv4 _ hv5; subst hv4 hv5; have D4 := Lib.hid (D3.out.drew.below hb4); have OW4 := Lib.hid (own_below OW3.out (below_undrew hb4)); have C4 := conv_bytes w4 ⟨g1, 0, none⟩ ys c1 (Lies.of_own OW4.out) HPB.out; have C5 := conv_bytes w4 ⟨g4, 0, none⟩ ys c4 (Lies.of_own hown4) HPB.out)
        | (go_at_call 22; refine (known2_any _).mono ?_; rintro e w5 ⟨rfl, hb5⟩; have D5 := Lib.hid (D4.out.below hb5)))
    all_goals
      go_wp2_with fail
      go_ret
      exact ⟨rfl, D5.out.bel⟩

theorem WavePacks_any (rate : Int) (A : Option Addr) (c : Nat) (l : List Int) (w : World) (h : Lies w A (ics l)) :
    Calls Try.prog 15 #[recV rate A l.length c] w fun e w' => e = .returned (.bool true) ∧ Below w.heap.size w w' := by
  cases hb : decide ((l.length : Int) ≤ 3000 ∨ (200000 < (l.length : Int) ∧ (l.length : Int) < 250000)) with
  | false => exact WavePacks_far rate A c l w (Lib.hid hb)
  | true =>
    have hl : l.length ≤ 250000 := by simp at hb; omega
    by_cases hr : chk rate l = 0
    · exact WavePacks_ok rate A c l w h (Lib.hid hb) hl (Lib.hid hr)
    · exact WavePacks_no rate A c l w h (Lib.hid hb) hl _ (Lib.hid rfl) (Lib.hid (by simpa using hr))
end Go.Proofs.Ytnhkngmdjomfjaa
