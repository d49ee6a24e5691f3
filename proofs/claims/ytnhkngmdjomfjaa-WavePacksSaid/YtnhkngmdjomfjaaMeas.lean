/- changes of sign and peak: the program's and the reference's -/
import Derived.Test.YtnhkngmdjomfjaaSame
import Derived.Test.YtnhkngmdjomfjaaPMeas
namespace Go.Proofs.Ytnhkngmdjomfjaa
open Go.RowKit Ear

/-- a number comes back; nothing is written -/
def RetInt (v : Int) (w : World) (e : Ending) (w' : World) : Prop := e = .returned (.int .i64 v) ∧ ∃ n, w' = w.drewN n
/-- a number and an error -/
def RetIntErr (v err : Int) (w : World) (e : Ending) (w' : World) : Prop := e = .returned (.tuple #[.int .i64 v, .int .i64 err]) ∧ ∃ n, w' = w.drewN n
theorem ret_int2 {k : IntKind} {a b : Int} {x : Value} (h : a = b) : Ending.returned (.tuple #[.int k a, x]) = .returned (.tuple #[.int k b, x]) := by rw [h]

set_option maxHeartbeats 1000000 in
theorem rChanges_any (A : Option Addr) (c : Nat) (l : List Int) (w : World) (h : Lies w A (ics l)) (hn : l.length ≤ 200000) :
    Calls Try.prog 56 #[.slice A l.length c] w (RetInt (chgN l l.length) w) := by
  go_enter Try.func56, Try.ntmps56
  go_wp2
  go_loopw [3, 4] (fun s i wr => ∃ k : Nat, 1 ≤ k ∧ (k ≤ l.length ∨ k = 1) ∧ i = .int .i64 k ∧ s = .int .i64 (chgN l k) ∧ ∃ n, wr = w.drewN n) (fun _ i _ => l.length - (intOf i).toNat)
  case atStart => exact ⟨1, by omega, .inr rfl, rfl, by rw [chgN_one]; rfl, 0, rfl⟩
  case round =>
    obtain ⟨k, hk1, hk, rfl, rfl, n, rfl⟩ := hrel
    have hcl := chgN_le l k
    by_cases hlt : k < l.length
    · obtain ⟨b1, o1, rfl, hba, hca⟩ := h.at_ hlt
      obtain ⟨b2, o2, eb, hbb, hcb⟩ := h.at_ (k := k - 1) (by omega)
      cases eb
      have hy := chgN_yes (l := l) hk1
      have hno := chgN_no (l := l) (k := k)
      generalize hx1 : l[k]?.getD 0 = x1 at *
      generalize hx2 : l[k - 1]?.getD 0 = x2 at *
      have HY := Lib.hid hy
      have HN := Lib.hid hno
      clear hy hno hx1 hx2
      have p0 : IntKind.i64.wrap ((k : Int) - 1) = (k : Int) - 1 := IntWalk.i64_in _ (by omega)
      have i0 : (0 : Int) ≤ (k : Int) - 1 := by omega
      have i3 : (1 : Int) ≤ (k : Int) := by omega
      have i1 : (k : Int) - 1 < (l.length : Int) := by omega
      have i2 : ((k : Int) - 1).toNat = k - 1 := by omega
      rcases Bool.eq_false_or_eq_true (decide (x1 < 0)) with d1 | d1 <;> rcases Bool.eq_false_or_eq_true (decide (x2 < 0)) with d2 | d2
      all_goals
        go_wp2
        go_quiet (fail)
        clear p0 i2
        go_wp2
        go_roundw
        case rel => exact ⟨k + 1, by omega, .inl (by omega), by go_num, by first | (rw [HN.out (by rw [d1, d2]; rfl)]) | (rw [HY.out (by rw [d1, d2]; rfl)]; go_num), _, rfl⟩
        case measure => simp [intOf]; omega
    · go_wp2
      go_ret
      refine ⟨ret_int ?_, _, rfl⟩
      rcases hk with hk | hk
      · obtain rfl : k = l.length := by omega
        rfl
      · subst hk
        rw [chgN_one]
        have : l.length = 0 ∨ l.length = 1 := by omega
        rcases this with e | e <;> rw [e] <;> simp [chgN]

set_option maxHeartbeats 1000000 in
theorem Changes_any (A : Option Addr) (c : Nat) (l : List Int) (w : World) (h : Lies w A (ics l)) (hn : l.length ≤ 9223372036854775807) (r : Int) (hr : Hid (vchk l = r)) (v : Int) (hv : Hid ((if r = 0 then (chgN l l.length : Int) else 0) = v)) :
    Calls Try.prog 54 #[.slice A l.length c] w (RetIntErr v r w) := by
  by_cases h0 : r = 0
  · subst h0
    have hv' := hv.out
    rw [if_pos rfl] at hv'
    subst hv'
    clear hv
    have hl := (vchk_ok.1 hr.out).1
    go_enter Try.func54, Try.ntmps54
    go_wp2_with fail
    refine (values_any A c l _ h hn _ hr).mono ?_
    rintro e w' ⟨rfl, rfl⟩
    go_wp2_with fail
    go_loopw [5, 6] (fun s i wr => ∃ k : Nat, 1 ≤ k ∧ (k ≤ l.length ∨ k = 1) ∧ i = .int .i64 k ∧ s = .int .i64 (chgN l k) ∧ ∃ n, wr = w.drewN n) (fun _ i _ => l.length - (intOf i).toNat)
    case atStart => exact ⟨1, by omega, .inr rfl, rfl, by rw [chgN_one]; rfl, 0, rfl⟩
    case round =>
      obtain ⟨k, hk1, hk, rfl, rfl, n, rfl⟩ := hrel
      have hcl := chgN_le l k
      by_cases hlt : k < l.length
      · obtain ⟨b1, o1, rfl, hba, hca⟩ := h.at_ hlt
        obtain ⟨b2, o2, eb, hbb, hcb⟩ := h.at_ (k := k - 1) (by omega)
        cases eb
        have hy := chgN_yes (l := l) hk1
        have hno := chgN_no (l := l) (k := k)
        generalize hx1 : l[k]?.getD 0 = x1 at *
        generalize hx2 : l[k - 1]?.getD 0 = x2 at *
        have HY := Lib.hid hy
        have HN := Lib.hid hno
        clear hy hno hx1 hx2
        have p0 : IntKind.i64.wrap ((k : Int) - 1) = (k : Int) - 1 := IntWalk.i64_in _ (by omega)
        have i0 : (0 : Int) ≤ (k : Int) - 1 := by omega
        have i3 : (1 : Int) ≤ (k : Int) := by omega
        have i1 : (k : Int) - 1 < (l.length : Int) := by omega
        have i2 : ((k : Int) - 1).toNat = k - 1 := by omega
        rcases Bool.eq_false_or_eq_true (decide (x1 < 0)) with d1 | d1 <;> rcases Bool.eq_false_or_eq_true (decide (x2 < 0)) with d2 | d2
        all_goals
          go_wp2
          go_quiet (fail)
          clear p0 i2
          go_wp2
          go_roundw
          case rel => exact ⟨k + 1, by omega, .inl (by omega), by go_num, by first | (rw [HN.out (by rw [d1, d2]; rfl)]) | (rw [HY.out (by rw [d1, d2]; rfl)]; go_num), _, rfl⟩
          case measure => simp [intOf]; omega
      · go_wp2
        go_ret2
        refine ⟨ret_int2 ?_, _, rfl⟩
        rcases hk with hk | hk
        · obtain rfl : k = l.length := by omega
          rfl
        · subst hk
          rw [chgN_one]
          have : l.length = 0 ∨ l.length = 1 := by omega
          rcases this with e | e <;> rw [e] <;> simp [chgN]
  · have hv' := hv.out
    rw [if_neg h0] at hv'
    subst hv'
    have hne : (r != 0) = true := by simp [h0]
    clear hv
    go_enter Try.func54, Try.ntmps54
    go_wp2_with fail
    refine (values_any A c l _ h hn _ hr).mono ?_
    rintro e w' ⟨rfl, rfl⟩
    go_wp2_with fail
    go_ret2
    exact ⟨rfl, 0, rfl⟩

set_option maxHeartbeats 1000000 in
theorem Peak_any (A : Option Addr) (c : Nat) (l : List Int) (w : World) (h : Lies w A (ics l)) (hn : l.length ≤ 9223372036854775807) (r : Int) (hr : Hid (vchk l = r)) (v : Int) (hv : Hid ((if r = 0 then pkAt l l.length else 0) = v)) :
    Calls Try.prog 55 #[.slice A l.length c] w (RetIntErr v r w) := by
  by_cases h0 : r = 0
  · subst h0
    have hv' := hv.out
    rw [if_pos rfl] at hv'
    subst hv'
    clear hv
    have hl := (vchk_ok.1 hr.out).1
    have HVL := Lib.hid (vchk_ok.1 hr.out).2
    go_enter Try.func55, Try.ntmps55
    go_wp2_with fail
    refine (values_any A c l _ h hn _ hr).mono ?_
    rintro e w' ⟨rfl, rfl⟩
    go_wp2_with fail
    go_loop [5, 6, 7, 8, 9, 17] (fun s m _ _ _ i => ∃ k : Nat, k ≤ l.length ∧ i = .int .i64 k ∧ s = .int .i64 (pkAt l k) ∧ m = .int .i64 (pkM l k)) (fun _ _ _ _ _ i => l.length - (intOf i).toNat)
    case atStart => exact ⟨0, by omega, rfl, rfl, rfl⟩
    case round =>
      obtain ⟨k, hk, rfl, rfl, rfl⟩ := hrel
      by_cases hlt : k < l.length
      · obtain ⟨b1, o1, rfl, hba, hca⟩ := h.at_ hlt
        have hy := pk_yes (l := l) (k := k)
        have hno := pk_no (l := l) (k := k)
        have e1 : l[k]?.getD 0 = l[k] := by simp [List.getElem?_eq_getElem hlt]
        have hb := allR_get HVL.out hlt
        rw [← e1] at hb
        clear e1
        generalize hx1 : l[k]?.getD 0 = x1 at *
        generalize hx2 : pkM l k = x2 at *
        have HY := Lib.hid hy
        have HN := Lib.hid hno
        clear hy hno hx1 hx2
        by_cases hs : x1 < 0
        · have ha : ab x1 = -x1 := by simp [ab, hs]
          have HA := Lib.hid ha
          clear ha
          by_cases hc2 : x2 < -x1
          · go_wp2_with fail
            exact ⟨⟨k + 1, by omega, by go_num, by rw [(HY.out (by rw [HA.out]; exact hc2)).1], by rw [(HY.out (by rw [HA.out]; exact hc2)).2, HA.out]⟩, by simp [intOf]; omega⟩
          · go_wp2_with fail
            exact ⟨⟨k + 1, by omega, by go_num, by rw [(HN.out (by rw [HA.out]; omega)).1], by rw [(HN.out (by rw [HA.out]; omega)).2]⟩, by simp [intOf]; omega⟩
        · have ha : ab x1 = x1 := by simp [ab, hs]
          have HA := Lib.hid ha
          clear ha
          by_cases hc2 : x2 < x1
          · go_wp2_with fail
            exact ⟨⟨k + 1, by omega, by go_num, by rw [(HY.out (by rw [HA.out]; exact hc2)).1], by rw [(HY.out (by rw [HA.out]; exact hc2)).2, HA.out]⟩, by simp [intOf]; omega⟩
          · go_wp2_with fail
            exact ⟨⟨k + 1, by omega, by go_num, by rw [(HN.out (by rw [HA.out]; omega)).1], by rw [(HN.out (by rw [HA.out]; omega)).2]⟩, by simp [intOf]; omega⟩
      · obtain rfl : k = l.length := by omega
        go_wp2
        go_ret2
        exact ⟨rfl, 0, rfl⟩
  · have hv' := hv.out
    rw [if_neg h0] at hv'
    subst hv'
    have hne : (r != 0) = true := by simp [h0]
    clear hv
    go_enter Try.func55, Try.ntmps55
    go_wp2_with fail
    refine (values_any A c l _ h hn _ hr).mono ?_
    rintro e w' ⟨rfl, rfl⟩
    go_wp2_with fail
    go_ret2
    exact ⟨rfl, 0, rfl⟩

set_option maxHeartbeats 2000000 in
theorem rPeak_any (A : Option Addr) (c : Nat) (l : List Int) (w : World) (h : Lies w A (ics l)) (hl : l.length ≤ 200000) (HVL : Hid (vls l = true)) :
    Calls Try.prog 57 #[.slice A l.length c] w (RetInt (pkAt l l.length) w) := by
  go_enter Try.func57, Try.ntmps57
  go_wp2_with fail
  go_loopw [3, 4] (fun s i wr => ∃ k : Nat, k ≤ l.length ∧ i = .int .i64 k ∧ s = .int .i64 (pkAt l k) ∧ ∃ n, wr = w.drewN n) (fun _ i _ => l.length - (intOf i).toNat)
  case atStart => exact ⟨0, by omega, rfl, rfl, 0, rfl⟩
  case round =>
    obtain ⟨k, hk, rfl, rfl, n, rfl⟩ := hrel
    by_cases hlt : k < l.length
    · obtain ⟨b1, o1, rfl, hba, hca⟩ := h.at_ hlt
      have hpb := pkAt_bd l k
      have hb := allR_get HVL.out hlt
      have e1 : l[k]?.getD 0 = l[k] := by simp [List.getElem?_eq_getElem hlt]
      rw [← e1] at hb
      clear e1
      have hy := pk_yes (l := l) (k := k)
      have hno := pk_no (l := l) (k := k)
      by_cases hk0 : k = 0
      · subst hk0
        have HY := Lib.hid (hy (by have := ab_nonneg (l[0]?.getD 0); simp [pkM, pkAt]; omega)).1
        clear hy hno hpb
        rw [show pkAt l 0 = -1 from rfl]
        go_wp2_with fail
        go_quiet (fail)
        go_wp2
        go_roundw
        case rel => exact ⟨1, by omega, by go_num, by rw [HY.out], _, rfl⟩
        case measure => simp [intOf]; omega
      · obtain ⟨j, hj⟩ := Int.eq_ofNat_of_zero_le (hpb.2.2 (by omega))
        have hjk : j < k := by omega
        rw [pkM_eq hj] at hy hno
        obtain ⟨b2, o2, eb, hbb, hcb⟩ := h.at_ (k := j) (by omega)
        cases eb
        have hb2 := allR_get HVL.out (show j < l.length by omega)
        have e1 : l[j]?.getD 0 = l[j] := by simp [List.getElem?_eq_getElem (show j < l.length by omega)]
        rw [← e1] at hb2
        clear e1
        rw [hj] at hno ⊢
        generalize hx1 : l[k]?.getD 0 = x1 at *
        generalize hx2 : l[j]?.getD 0 = x2 at *
        have HY := Lib.hid (fun h => (hy h).1)
        have HN := Lib.hid (fun h => (hno h).1)
        clear hy hno hx1 hx2 hpb hj
        have hjl : j < l.length := by omega
        have d0 : decide ((j : Int) < 0) = false := by simp
        have p1 : IntKind.i64.wrap (-x1) = -x1 := IntWalk.i64_in _ (by omega)
        have p2 : IntKind.i64.wrap (-x2) = -x2 := IntWalk.i64_in _ (by omega)
        rcases Int.lt_or_le x1 0 with s1 | s1 <;> rcases Int.lt_or_le x2 0 with s2 | s2
        · have ha1 : ab x1 = -x1 := by unfold ab; rw [if_pos s1]
          have ha2 : ab x2 = -x2 := by unfold ab; rw [if_pos s2]
          rw [ha1, ha2] at HY HN
          clear ha1 ha2
          by_cases hc2 : -x2 < -x1
          · go_wp2_with fail
            go_quiet (fail)
            clear p1 p2
            go_wp2
            go_roundw
            case rel => exact ⟨k + 1, by omega, by go_num, by rw [HY.out hc2], _, rfl⟩
            case measure => simp [intOf]; omega
          · go_wp2_with fail
            go_quiet (fail)
            clear p1 p2
            go_wp2
            go_roundw
            case rel => exact ⟨k + 1, by omega, by go_num, by rw [HN.out (by omega)], _, rfl⟩
            case measure => simp [intOf]; omega
        · have ha1 : ab x1 = -x1 := by unfold ab; rw [if_pos s1]
          have ha2 : ab x2 = x2 := by unfold ab; rw [if_neg (Int.not_lt.2 s2)]
          rw [ha1, ha2] at HY HN
          clear ha1 ha2
          by_cases hc2 : x2 < -x1
          · go_wp2_with fail
            go_quiet (fail)
            clear p1 p2
            go_wp2
            go_roundw
            case rel => exact ⟨k + 1, by omega, by go_num, by rw [HY.out hc2], _, rfl⟩
            case measure => simp [intOf]; omega
          · go_wp2_with fail
            go_quiet (fail)
            clear p1 p2
            go_wp2
            go_roundw
            case rel => exact ⟨k + 1, by omega, by go_num, by rw [HN.out (by omega)], _, rfl⟩
            case measure => simp [intOf]; omega
        · have ha1 : ab x1 = x1 := by unfold ab; rw [if_neg (Int.not_lt.2 s1)]
          have ha2 : ab x2 = -x2 := by unfold ab; rw [if_pos s2]
          rw [ha1, ha2] at HY HN
          clear ha1 ha2
          by_cases hc2 : -x2 < x1
          · go_wp2_with fail
            go_quiet (fail)
            clear p1 p2
            go_wp2
            go_roundw
            case rel => exact ⟨k + 1, by omega, by go_num, by rw [HY.out hc2], _, rfl⟩
            case measure => simp [intOf]; omega
          · go_wp2_with fail
            go_quiet (fail)
            clear p1 p2
            go_wp2
            go_roundw
            case rel => exact ⟨k + 1, by omega, by go_num, by rw [HN.out (by omega)], _, rfl⟩
            case measure => simp [intOf]; omega
        · have ha1 : ab x1 = x1 := by unfold ab; rw [if_neg (Int.not_lt.2 s1)]
          have ha2 : ab x2 = x2 := by unfold ab; rw [if_neg (Int.not_lt.2 s2)]
          rw [ha1, ha2] at HY HN
          clear ha1 ha2
          by_cases hc2 : x2 < x1
          · go_wp2_with fail
            go_quiet (fail)
            clear p1 p2
            go_wp2
            go_roundw
            case rel => exact ⟨k + 1, by omega, by go_num, by rw [HY.out hc2], _, rfl⟩
            case measure => simp [intOf]; omega
          · go_wp2_with fail
            go_quiet (fail)
            clear p1 p2
            go_wp2
            go_roundw
            case rel => exact ⟨k + 1, by omega, by go_num, by rw [HN.out (by omega)], _, rfl⟩
            case measure => simp [intOf]; omega
    · obtain rfl : k = l.length := by omega
      go_wp2
      go_ret
      exact ⟨rfl, _, rfl⟩
end Go.Proofs.Ytnhkngmdjomfjaa
