/- WavePieces: the walk -/
import Derived.Test.YtnflpnbpigcfhaaLFrm
import Derived.Test.YtnflpnbpigcfhaaPPie
namespace Go.Proofs.Ytnflpnbpigcfhaa
open Go.RowKit Ear

theorem cutA_zero (A : Option Addr) (c : Nat) : cutA A 0 c = A := by
  unfold cutA
  split
  · rfl
  · cases A with
    | none => rfl
    | some a => obtain ⟨b, o, p⟩ := a; simp [Addr.add]
theorem run_cutH (A : Option Addr) (n c t : Nat) (h2 : t ≤ c) (w : World) :
    (Instr.slice 22 (.slice A n c) none (some (.int .i64 t)) none).run Try.prog w = .ok (.slice A t c) w := by
  have e2 : (t : Int) ≤ (c : Int) := by omega
  have e0 : Try.prog.elem 22 = 3 := by kernel_rfl
  rw [run_slice_h (t := 22) (a := A) (len := n) (cap := c) (ht := by rw [e0]; exact Try.underlying22) (kh := .i64) (h := t) (h0 := by omega) (h2 := e2), e0]
  have hs : (sizeOf 3).run Try.prog w = .ok 1 w := by kernel_rfl
  rw [hs]
  have := cutA_zero A c
  simp only [cutA] at this
  simp [Result.andThen, sliced, this]
theorem run_cutHs (A : Option Addr) (n c t : Nat) (h2 : t ≤ c) (w : World) :
    (Instr.slice 25 (.slice A n c) none (some (.int .i64 t)) none).run Try.prog w = .ok (.slice A t c) w := by
  have e2 : (t : Int) ≤ (c : Int) := by omega
  have e0 : Try.prog.elem 25 = 22 := by kernel_rfl
  rw [run_slice_h (t := 25) (a := A) (len := n) (cap := c) (ht := by rw [e0]; exact Try.underlying25) (kh := .i64) (h := t) (h0 := by omega) (h2 := e2), e0]
  have hs : (sizeOf 22).run Try.prog w = .ok 1 w := by kernel_rfl
  rw [hs]
  have := cutA_zero A c
  simp only [cutA] at this
  simp [Result.andThen, sliced, this]
theorem LL.take {w : World} {A : Option Addr} {L : List Inn} (h : LL w A L) (k : Nat) : LL w A (L.take k) := ⟨by have := h.lies.take k; simpa [lcs, List.map_take] using this, fun x hx => h.inn x (List.mem_of_mem_take hx)⟩
set_option maxRecDepth 100000 in
set_option maxHeartbeats 2000000 in
theorem WavePieces_out (A : Option Addr) (c : Nat) (x : List Int) (size : Int) (w : World) (h : Lies w A (ics x)) (hn : x.length ≤ 9223372036854775807)
    (hb : 2000 < x.length ∨ (x.length ≤ 2000 ∧ size < 1) ∨ (x.length ≤ 2000 ∧ 1 ≤ size ∧ 500 < size) ∨ (x.length ≤ 2000 ∧ 1 ≤ size ∧ size ≤ 500 ∧ Hid (vls x = false))) :
    Calls Try.prog 4 #[.slice A x.length c, .int .i64 size] w fun e w' => e = .returned (.bool true) ∧ Below w.heap.size w w' := by
  rcases hb with h1 | ⟨h1, h2⟩ | ⟨h1, h2, h3⟩ | ⟨h1, h2, h3, h4⟩
  case inr.inr.inr =>
    go_enter Try.func4, Try.ntmps4
    go_wp2_with fail
    refine (rValues_any A c x w h hn false h4).mono ?_
    rintro e w0 ⟨rfl, rfl⟩
    go_wp2_with fail
    refine (known2_any _).mono ?_
    rintro e w7 ⟨rfl, hb7⟩
    go_wp2_with fail
    go_ret
    exact ⟨rfl, hb7⟩
  all_goals
    go_enter Try.func4, Try.ntmps4
    go_wp2_with fail
    refine (known2_any _).mono ?_
    rintro e w7 ⟨rfl, hb7⟩
    go_wp2_with fail
    go_ret
    exact ⟨rfl, hb7⟩
/-- the first elements, and zeros -/
def padK (x : List Int) (M : Nat) : List Int := (List.range M).map (fun i => x[i]?.getD 0)
theorem padK_len (x : List Int) (M : Nat) : (padK x M).length = M := by simp [padK]
theorem padK_add (x : List Int) (M size : Nat) : padK x (M + size) = padK x M ++ frA x size M := by
  unfold padK frA
  rw [List.range_add, List.map_append, List.map_map]
  rfl
set_option maxRecDepth 100000 in
set_option maxHeartbeats 8000000 in
theorem WavePieces_ok (A : Option Addr) (c : Nat) (x : List Int) (size : Nat) (w : World) (h : Lies w A (ics x)) (hn : x.length ≤ 2000) (hs1 : 1 ≤ size) (hs2 : size ≤ 500) (hv : Hid (vls x = true))
    (HT : Hid (∀ pad W, Lies W A (ics x) → Calls Try.prog 7 #[.slice A x.length c, .int .i64 size, .int .i64 size, .bool pad] W (LLErr 0 (frs x size size pad) W))) :
    Calls Try.prog 4 #[.slice A x.length c, .int .i64 size] w fun e w' => e = .returned (.bool true) ∧ Below w.heap.size w w' := by
  obtain ⟨j0, hj0, ky0, ky1, ky2⟩ := info_parts int_info
  have KI := Lib.hid hj0; have KZ0 := Lib.hid ky0; have KZ1 := Lib.hid ky1; have KZ2 := Lib.hid ky2
  clear hj0 ky0 ky1 ky2
  go_enter Try.func4, Try.ntmps4
  go_wp2_with fail
  refine (rValues_any A c x w h (by omega) true hv).mono ?_
  rintro e w0 ⟨rfl, rfl⟩
  go_wp2_with fail
  refine (HT.out true _ h).mono ?_
  rintro e w1 ⟨A1, c1, L1, rfl, v1, o1, b1⟩
  have HA1 := Lib.hid (h.below b1)
  have V1 := Lib.hid v1.out
  have O1 := Lib.hid o1
  have B1 := Lib.hid b1
  clear v1 o1 b1
  go_wp2_with fail
  refine (HT.out false _ HA1.out).mono ?_
  rintro e w2 ⟨A2, c2, L2, rfl, v2, o2, b2⟩
  have HA2 := Lib.hid (HA1.out.below b2)
  have M1 := Lib.hid (O1.out.ll.below b2)
  have C1 : L1.length ≤ c1 := own_cap O1.out.row
  have M2 := Lib.hid o2.ll
  have B2 := Lib.hid (bel_trans B1.out b2)
  have V2 := Lib.hid v2.out
  clear v2 o2 b2 HA1 O1 B1 HT
  have N1 : L1.length = frN x.length size size true := by have := congrArg List.length V1.out; simpa [frs_length] using this
  have N2 : L2.length = x.length / size := by have := congrArg List.length V2.out; rw [frs_length, frN_cut _ _ hs1] at this; simpa using this
  have hP := frN_pad x.length size hs1
  have hN12 := frN_le_pad x.length size hs1
  have hNle := frN_le (n := x.length) (size := size) (step := size) (pad := true) hs1 hs1
  rw [← N1] at hP hN12 hNle
  rw [← N2] at hN12
  have HV1 : Hid (∀ k (hk : k < L1.length), L1[k].2.2 = frA x size (k * size)) := Lib.hid (fun k hk => by
    have h1 := V1.out
    have h2 : (vsOf L1)[k]? = some L1[k].2.2 := by rw [List.getElem?_map, List.getElem?_eq_getElem hk]; rfl
    rw [h1, frs, List.getElem?_map, List.getElem?_range (by omega)] at h2
    simpa using h2.symm)
  have HM : Hid (∀ k, k ≤ L1.length → k * size ≤ 1000000) := Lib.hid (fun k hk => Nat.mul_le_mul (Nat.le_trans hk (Nat.le_trans hNle hn)) hs2)
  have hq : (x.length : Int) / (size : Int) = (L2.length : Int) := by rw [N2]; simp
  have HN1 := Lib.hid N1
  have HN2 := Lib.hid N2
  have HP := Lib.hid hP
  clear N1 N2 hP
  go_wp2_with fail
  go_loopw [9, 10] (fun t i wr => ∃ k : Nat, k ≤ L1.length ∧ i = .int .i64 k ∧ ∃ A3 c3 M, t = .slice A3 M c3 ∧ M = k * size ∧ wr.ownsRow w2.heap.size 3 1 (.slice A3 M c3) M (ics (padK x M)) ∧ Below w2.heap.size w2 wr) (fun _ i _ => L1.length - (intOf i).toNat)
  case atStart => exact ⟨0, by omega, rfl, none, 0, 0, rfl, by simp, World.ownsRow_nil _ _ _ _, Below.refl _ _⟩
  case round =>
    obtain ⟨k, hk, rfl, A3, c3, M, rfl, hMk, ho, hbel⟩ := hrel
    have HO := Lib.hid ho
    have HBE := Lib.hid hbel
    have HMK := Lib.hid hMk
    have hMb := HM.out k hk
    rw [← hMk] at hMb
    have hcap := own_cap ho
    have hws := hbel.size
    clear ho hbel hMk
    by_cases hlt : k < L1.length
    · obtain ⟨b, off, rfl, hbl, hc⟩ := (M1.out.below HBE.out).lies.lat hlt
      have hx := (M1.out.below HBE.out).inn L1[k] (List.getElem_mem hlt)
      have hxv := HV1.out k hlt
      generalize L1[k] = y at *
      obtain ⟨xa, xc, xl⟩ := y
      simp only at hxv hc
      have hxl : xl.length = size := by rw [hxv, frA_length]
      rw [hxl] at hc
      have HX := Lib.hid hx
      have HXV := Lib.hid hxv
      have HXL := Lib.hid hxl
      clear hx hxv hxl
      go_wp2_with (at_builtin; refine wpList_append_srcG _ rfl (.tmp 55) (.tmp 59) _ rfl w2.heap.size 3 j0 _ 1 8 Try.underlying22 KI.out KZ0.out KZ1.out KZ2.out rfl (by omega) (.slice A3 M c3) M (ics (padK x M)) rfl HO.out xa size xc (ics xl) rfl (fun e => (HX.out.2.1 e).1) HX.out.1 (by simp [HXL.out]) (ics_one _) (by unfold maxLen; omega) (by omega) (by omega) (M + size) rfl ?_; intro A4 c4 w4 ho4 hg4 _)
      go_roundw
      case rel =>
        refine ⟨k + 1, by omega, by go_num, A4, c4, M + size, rfl, by rw [HMK.out, Nat.add_mul, Nat.one_mul], ?_, HBE.out.grown hg4 (by omega) (fun q hq => (HO.out.lt q hq).1)⟩
        rw [padK_add, ics_append, HMK.out, ← HXV.out, ← HMK.out]
        exact ho4
      case measure => simp [intOf]; omega
    · obtain rfl : k = L1.length := by omega
      have hP1 := HP.out.1
      have hP2 := HP.out.2
      rw [← HMK.out] at hP1 hP2
      have hcut1 := fun W => run_cutH A3 M c3 x.length (by omega) W
      have hcut2 := fun W => run_cutL A3 M c3 x.length (by omega) W
      have hcut3 := fun W => run_cutHs A1 L1.length c1 L2.length (by omega) W
      have HL := Lies.of_own HO.out
      have HSX : Hid (Lies wr A3 (ics x)) := Lib.hid (by have := HL.take x.length; rw [← List.map_take, padK, flat_take x M (by omega)] at this; exact this)
      have HSZ : Hid (Lies wr (cutA A3 x.length c3) (ics (List.replicate (M - x.length) 0))) := Lib.hid (by
        have := Lies.cutL (f := x.length) (c := c3) HL (by rw [padK_len]; omega) (by rw [padK_len]; omega)
        rw [padK, flat_drop] at this
        exact this)
      have HXX := Lib.hid (HA2.out.below HBE.out)
      have MM1 := Lib.hid (M1.out.below HBE.out)
      have MM2 := Lib.hid (M2.out.below HBE.out)
      have BB := Lib.hid (bel_trans B2.out HBE.out)
      clear HL HMK HM HBE
      go_wp2_with fail
      refine (Same_any A3 A c3 c x x _ HSX.out HXX.out (by omega) (by omega) true (Lib.hid (by simp))).mono ?_
      rintro e w3 ⟨rfl, n3, rfl⟩
      go_wp2_with fail
      have hall := All_any (cutA A3 x.length c3) (c3 - x.length) (List.replicate (M - x.length) 0) 0 0 (wr.drewN n3) HSZ.out (by simp; omega) true (Lib.hid (allR_zero _))
      rw [List.length_replicate] at hall
      refine hall.mono ?_
      rintro e w4 ⟨rfl, rfl⟩
      go_wp2_with fail
      have hsame := SameLists_any A2 A1 c2 c1 L2 (L1.take L2.length) (wr.drewN n3) ⟨MM2.out.lies, MM2.out.inn⟩ ⟨(MM1.out.take _).lies, (MM1.out.take _).inn⟩ (by omega) true (Lib.hid (by
        rw [decide_eq_true_iff]
        have e1 : vsOf (L1.take L2.length) = (vsOf L1).take L2.length := by simp [vsOf, List.map_take]
        rw [e1, V1.out, V2.out, HN2.out, frs_cut x size hs1]))
      rw [List.length_take, Nat.min_eq_left (by omega)] at hsame
      refine hsame.mono ?_
      rintro e w5 ⟨rfl, n5, rfl⟩
      go_wp2_with fail
      refine (known2_any _).mono ?_
      rintro e w7 ⟨rfl, hb7⟩
      go_wp2_with fail
      go_ret
      exact ⟨rfl, bel_trans (BB.out.trans (belDrewN _ _)) hb7⟩
theorem WavePieces_any (A : Option Addr) (c : Nat) (x : List Int) (size : Int) (w : World) (h : Lies w A (ics x)) (hxc : x.length ≤ c) (hn : x.length ≤ 9223372036854775807) (hB : ∀ y ∈ x, -9223372036854775808 ≤ y ∧ y ≤ 9223372036854775807) :
    Calls Try.prog 4 #[.slice A x.length c, .int .i64 size] w fun e w' => e = .returned (.bool true) ∧ Below w.heap.size w w' := by
  by_cases h1 : x.length ≤ 2000
  · by_cases h2 : 1 ≤ size
    · by_cases h3 : size ≤ 500
      · cases hv : vls x with
        | false => exact WavePieces_out A c x size w h hn (.inr (.inr (.inr ⟨h1, h2, h3, Lib.hid hv⟩)))
        | true =>
          have es : size = (size.toNat : Int) := by omega
          have b1 : 1 ≤ size.toNat := by omega
          have b2 : size.toNat ≤ 500 := by omega
          rw [es]
          generalize size.toNat = s at *
          refine WavePieces_ok A c x s w h h1 b1 b2 (Lib.hid hv) (Lib.hid fun pad W hW => Frames_any A c x s s pad W hW hxc hn hB 0 _ (Lib.hid ?_))
          have hle := frN_le (n := x.length) (pad := pad) b1 b1
          have hmul := Nat.mul_le_mul (Nat.le_trans hle h1) b2
          unfold frmR
          rw [if_pos (vchk_zero.2 ⟨by omega, hv⟩), if_pos (by omega), Int.toNat_natCast, if_neg (by omega)]
      · exact WavePieces_out A c x size w h hn (.inr (.inr (.inl ⟨h1, h2, by omega⟩)))
    · exact WavePieces_out A c x size w h hn (.inr (.inl ⟨h1, by omega⟩))
  · exact WavePieces_out A c x size w h hn (.inl (by omega))
end Go.Proofs.Ytnflpnbpigcfhaa
