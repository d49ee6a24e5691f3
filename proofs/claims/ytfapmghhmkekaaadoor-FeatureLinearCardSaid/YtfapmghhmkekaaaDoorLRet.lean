/- FeatureReturns: the walk -/
import Derived.Test.YtfapmghhmkekaaaDoorMc
import Derived.Test.YtfapmghhmkekaaaDoorPDev
import Derived.Test.YtfapmghhmkekaaaDoorMa
namespace Go.Proofs.YtfapmghhmkekaaaDoor
open Go.RowKit Ear

def spn (l : List Int) : Bool := lenOk l.length && allR (-65536) 65536 l
set_option maxHeartbeats 400000 in
theorem spans_any (A : Option Addr) (c : Nat) (l : List Int) (w : World) (h : Lies w A (ics l)) (hn : l.length ≤ 9223372036854775807) (r : Bool) (hr : Hid (spn l = r)) :
    Calls Tryd.prog 26 #[.slice A l.length c] w fun e w' => e = .returned (.bool r) ∧ w = w' := by
  have hr' := hr.out
  unfold spn at hr'
  clear hr
  cases h1 : lenOk l.length with
  | false =>
    rw [h1, Bool.false_and] at hr'
    subst hr'
    have H1 := Lib.hid h1
    clear h1
    go_enter Tryd.func26, Tryd.ntmps26
    go_wp2_with fail
    refine (rLength_any l.length w hn false H1).mono ?_
    rintro e w' ⟨rfl, rfl⟩
    go_wp2_with fail
    go_ret
    exact ⟨rfl, rfl⟩
  | true =>
    rw [h1, Bool.true_and] at hr'
    have H1 := Lib.hid h1
    have H2 := Lib.hid hr'
    clear h1 hr'
    go_enter Tryd.func26, Tryd.ntmps26
    go_wp2_with fail
    refine (rLength_any l.length w hn true H1).mono ?_
    rintro e w' ⟨rfl, rfl⟩
    go_wp2_with fail
    refine (All_any A c l (-65536) 65536 w h hn r H2).mono ?_
    rintro e w' ⟨rfl, rfl⟩
    go_wp2_with fail
    go_ret
    exact ⟨rfl, rfl⟩
theorem trf_wide {l : List Int} (h : allR (-65536) 65536 l = true) (hn : l.length ≤ 64) : allR (-1099511627776) 1099511627776 (trf l) = true := by
  apply allR_of
  intro x hx
  obtain ⟨k, hk, rfl⟩ := List.getElem_of_mem hx
  have := trf_bd h hn k
  rw [List.getElem?_eq_getElem hk] at this
  simp only [Option.getD_some] at this
  omega
/-- the greatest absolute value so far -/
def Mst (l : List Int) (k : Nat) (M : Int) : Prop := 0 ≤ M ∧ M ≤ 65536 ∧ ∀ j, j < k → -M ≤ l[j]?.getD 0 ∧ l[j]?.getD 0 ≤ M

set_option maxRecDepth 100000 in
set_option maxHeartbeats 4000000 in
theorem FeatureReturns_any (A : Option Addr) (c : Nat) (l : List Int) (w : World) (h : Lies w A (ics l)) (hn : l.length ≤ 9223372036854775807) (hC : CosOk w) (hk : Kn) :
    Calls Tryd.prog 5 #[.slice A l.length c] w (RetB true w) := by
  cases hsp : spn l with
  | false =>
    have H1 := Lib.hid hsp
    clear hsp
    go_enter Tryd.func5, Tryd.ntmps5
    go_wp2_with fail
    refine (spans_any A c l w h hn false H1).mono ?_
    rintro e w' ⟨rfl, rfl⟩
    go_wp2_with fail
    refine (hk _ hC).mono ?_
    rintro e w1 ⟨rfl, hb1⟩
    go_wp2_with fail
    go_ret
    exact ⟨rfl, hb1⟩
  | true =>
    have H1 := Lib.hid hsp
    have hs := hsp
    unfold spn at hs
    rw [Bool.and_eq_true] at hs
    have HL := Lib.hid hs.1
    have HV := Lib.hid hs.2
    have h64 := (lenOk_bd hs.1).2
    have T1 : Hid (trfR l = (0, trf l)) := Lib.hid (by unfold trfR; rw [if_pos hs])
    have N1 := Lib.hid (trf_length l)
    have N2 : Hid ((inv (trf l)).length = l.length) := Lib.hid (by rw [inv_length, trf_length])
    have TW := Lib.hid (trf_wide hs.2 h64)
    clear hsp hs
    go_enter Tryd.func5, Tryd.ntmps5
    go_wp2_with fail
    refine (spans_any A c l w h hn true H1).mono ?_
    rintro e w' ⟨rfl, rfl⟩
    go_wp2_with fail
    refine (Transform_any A c l w h hC hn 0 (trf l) T1).mono ?_
    rintro e w1 ⟨A1, c1, rfl, ho1, hb1⟩
    have C1 := Lib.hid (hC.below hb1)
    have L1 := Lib.hid (h.below hb1)
    have hcall := Inverse_ok A1 c1 (trf l) w1 (Lies.of_own ho1) C1.out (by rw [N1.out]; exact HL.out) TW
    rw [N1.out] at hcall
    rw [N1.out]
    clear ho1
    go_wp2_with fail
    refine hcall.mono ?_
    clear hcall
    rintro e w2 ⟨A2, c2, rfl, ho2, hb2⟩
    rw [N2.out]
    have C2 := Lib.hid (C1.out.below hb2)
    have L2 := Lib.hid (L1.out.below hb2)
    have O2 := Lib.hid (Lies.of_own ho2)
    have B2 := Lib.hid (hb1.trans (hb2.mono hb1.size))
    clear ho2 hb1 hb2 C1 L1
    go_wp2_with fail
    go_loopw [7, 8] (fun t7 i wr => ∃ k : Nat, k ≤ l.length ∧ i = .int .i64 k ∧ ∃ M, t7 = .int .i64 M ∧ Hid (Mst l k M) ∧ ∃ n, wr = w2.drewN n) (fun _ i _ => l.length - (intOf i).toNat)
    case atStart => exact ⟨0, by omega, rfl, 0, rfl, Lib.hid ⟨by omega, by omega, fun j hj => by omega⟩, 0, rfl⟩
    case round =>
      obtain ⟨k, hk', rfl, M, rfl, hM, n, rfl⟩ := hrel
      have hm0 := hM.out.1
      have hm1 := hM.out.2.1
      by_cases hlt : k < l.length
      · obtain ⟨b1, o1, rfl, hb1', hc1⟩ := L2.out.at_ hlt
        have hx := getD_bd HV.out (by omega) (by omega) k
        have hst : Hid (∀ y, M ≤ y → y ≤ 65536 → l[k]?.getD 0 ≤ y → -(l[k]?.getD 0) ≤ y → Mst l (k + 1) y) := Lib.hid fun y h1 h2 h3 h4 => ⟨by omega, by omega, fun j hj => by
          by_cases e : j = k
          · subst e; omega
          · have := hM.out.2.2 j (by omega); omega⟩
        generalize l[k]?.getD 0 = x at *
        have p1 : IntKind.i64.wrap (-x) = -x := IntWalk.i64_in _ (by omega)
        go_wp2_with fail
        go_quiet (fail)
        go_wp2_with fail
        obtain ⟨y, hy⟩ : ∃ y, (if (if M < x then x else M) < -x then -x else if M < x then x else M) = y := ⟨_, rfl⟩
        have hyb : M ≤ y ∧ y ≤ 65536 ∧ x ≤ y ∧ -x ≤ y := by
          rw [← hy]
          split <;> split <;> omega
        exact ⟨⟨k + 1, by omega, by go_num, y, by rw [hy], Lib.hid (hst.out y hyb.1 hyb.2.1 hyb.2.2.1 hyb.2.2.2), _, rfl⟩, by simp [intOf]; omega⟩
      · obtain rfl : k = l.length := by omega
        have hnear : Hid (∀ q, q < l.length → 16384 * ((l[q]?.getD 0 - invAt (trf l) q) - 1) ≤ 2 * l.length * M ∧ 16384 * (-(l[q]?.getD 0 - invAt (trf l) q) - 1) ≤ 2 * l.length * M) := Lib.hid fun q hq =>
          returns_near (dev_all HL.out) hm0 (fun j => by
            by_cases hj : j < l.length
            · exact hM.out.2.2 j hj
            · rw [List.getElem?_eq_none (by omega)]; simp; exact hm0) hq
        have hz : 0 ≤ 2 * (l.length : Int) * M ∧ 2 * (l.length : Int) * M ≤ 128 * 65536 := by
          have h1 := Int.mul_le_mul (show 2 * (l.length : Int) ≤ 128 by omega) hm1 hm0 (by omega)
          have h2 := Int.mul_nonneg (show 0 ≤ 2 * (l.length : Int) by omega) hm0
          exact ⟨h2, h1⟩
        clear hM
        go_wp2_with fail
        go_loopw [9, 10] (fun i _ wr => ∃ q : Nat, q ≤ l.length ∧ i = .int .i64 q ∧ ∃ n, wr = w2.drewN n) (fun i _ _ => l.length - (intOf i).toNat)
        case atStart => exact ⟨0, by omega, rfl, n, rfl⟩
        case round =>
          obtain ⟨q, hq, rfl, m, rfl⟩ := hrel
          by_cases hlt : q < l.length
          · obtain ⟨b1, o1, rfl, hb1', hc1⟩ := L2.out.at_ hlt
            obtain ⟨b2, o2, rfl, hb2', hc2⟩ := O2.out.at_ (k := q) (by rw [N2.out]; exact hlt)
            have hx := getD_bd HV.out (by omega) (by omega) q
            have hi : (inv (trf l))[q]?.getD 0 = invAt (trf l) q := by
              rw [List.getElem?_eq_getElem (by rw [N2.out]; exact hlt)]; simp [inv]
            have hnr := hnear.out q hlt
            rw [hi] at hc2
            clear hi
            generalize l[q]?.getD 0 = x at *
            generalize invAt (trf l) q = y at *
            have p1 : IntKind.i64.wrap (x - y) = x - y := IntWalk.i64_in _ (by omega)
            go_wp2_with fail
            go_quiet (fail)
            obtain ⟨d, hd⟩ : ∃ d, d = x - y := ⟨_, rfl⟩
            rw [← hd] at hnr ⊢
            have hdb : -600 ≤ d ∧ d ≤ 600 := by omega
            clear p1 hd hc1 hc2
            obtain ⟨e, he⟩ : ∃ e, (if d < -d then -d else d) = e := ⟨_, rfl⟩
            have heb : 0 ≤ e ∧ e ≤ 600 ∧ 16384 * (e - 1) ≤ 2 * (l.length : Int) * M := by
              rw [← he]
              split <;> omega
            go_wp2_with fail
            exact ⟨⟨q + 1, by omega, by go_num, _, rfl⟩, by simp [intOf]; omega⟩
          · obtain rfl : q = l.length := by omega
            have C3 : Hid (CosOk (w2.drewN m)) := C2
            have B3 := Lib.hid (B2.out.trans (below_drewN' (B := w.heap.size) w2 m))
            generalize w2.drewN m = w3 at *
            go_wp2_with fail
            refine (hk _ C3.out).mono ?_
            rintro e w4 ⟨rfl, hb4⟩
            go_wp2_with fail
            go_ret
            exact ⟨rfl, B3.out.trans (hb4.mono B3.out.size)⟩
end Go.Proofs.YtfapmghhmkekaaaDoor
