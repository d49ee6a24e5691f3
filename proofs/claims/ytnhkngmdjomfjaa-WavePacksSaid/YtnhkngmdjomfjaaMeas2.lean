/- energy (both), short -/
import Derived.Test.YtnhkngmdjomfjaaEnr
import Derived.Test.YtnhkngmdjomfjaaMeas
namespace Go.Proofs.Ytnhkngmdjomfjaa
open Go.RowKit Ear

/-- what is wrong with a list whose energy is asked for -/
def echk (l : List Int) : Int := if 200000 < l.length then 5 else if allR (-65536) 65535 l = true then 0 else 2

set_option maxHeartbeats 400000 in
theorem short_any (n : Int) (w : World) (b : Bool) (hb : Hid (decide (n ≤ 3000 ∨ (200000 < n ∧ n < 250000)) = b)) :
    Calls Try.prog 21 #[.int .i64 n] w fun e w' => e = .returned (.bool b) ∧ w = w' := by
  have hb' := hb.out
  clear hb
  subst hb'
  by_cases h1 : n ≤ 3000
  · go_enter Try.func21, Try.ntmps21
    go_wp2_with fail
    go_ret
    exact ⟨ret_bool (by simp [h1]), rfl⟩
  by_cases h2 : 200000 < n
  · by_cases h3 : n < 250000
    all_goals
      go_enter Try.func21, Try.ntmps21
      go_wp2_with fail
      go_ret
      exact ⟨ret_bool (by simp <;> omega), rfl⟩
  · go_enter Try.func21, Try.ntmps21
    go_wp2_with fail
    go_ret
    exact ⟨ret_bool (by simp; omega), rfl⟩

set_option maxHeartbeats 400000 in
theorem Energy_any (A : Option Addr) (c : Nat) (l : List Int) (w : World) (h : Lies w A (ics l)) (hn : l.length ≤ 9223372036854775807) (r : Int) (hr : Hid (echk l = r)) (v : Int) (hv : Hid ((if r = 0 then enr l else 0) = v)) :
    Calls Try.prog 41 #[.slice A l.length c] w fun e w' => e = .returned (.tuple #[.int .i64 v, .int .i64 r]) ∧ w = w' := by
  have hr' := hr.out
  have hv' := hv.out
  clear hr hv
  unfold echk at hr'
  by_cases h1 : 200000 < l.length
  · rw [if_pos h1] at hr'
    subst hr'
    rw [if_neg (by omega)] at hv'
    subst hv'
    go_enter Try.func41, Try.ntmps41
    go_wp2_with fail
    go_ret2
    exact ⟨rfl, rfl⟩
  · rw [if_neg h1] at hr'
    cases hx : allR (-65536) 65535 l with
    | false =>
      rw [hx, if_neg (by simp)] at hr'
      subst hr'
      rw [if_neg (by omega)] at hv'
      subst hv'
      have HX := Lib.hid hx
      clear hx
      go_enter Try.func41, Try.ntmps41
      go_wp2_with fail
      refine (ContainsI_any _ _ Energy1_pred A c l _ h hn).mono ?_
      rintro e w' ⟨rfl, rfl⟩
      rw [any_not_allR, HX.out]
      go_wp2_with fail
      go_ret2
      exact ⟨rfl, rfl⟩
    | true =>
      rw [hx, if_pos rfl] at hr'
      subst hr'
      rw [if_pos rfl] at hv'
      subst hv'
      have HX := Lib.hid hx
      clear hx
      go_enter Try.func41, Try.ntmps41
      go_wp2_with fail
      refine (ContainsI_any _ _ Energy1_pred A c l _ h hn).mono ?_
      rintro e w' ⟨rfl, rfl⟩
      rw [any_not_allR, HX.out]
      go_wp2_with fail
      refine (energy_any A c l _ h HX (by omega)).mono ?_
      rintro e w' ⟨rfl, rfl⟩
      go_wp2_with fail
      go_ret2
      exact ⟨rfl, rfl⟩

set_option maxHeartbeats 400000 in
theorem rEnergy_any (A : Option Addr) (c : Nat) (l : List Int) (w : World) (h : Lies w A (ics l)) (hv : Hid (allR (-65536) 65535 l = true)) (hn : l.length ≤ 200000) :
    Calls Try.prog 58 #[.slice A l.length c] w (RetInt (enr l) w) := by
  go_enter Try.func58, Try.ntmps58
  go_wp2_with fail
  go_loopw [3, 4] (fun s i wr => ∃ k : Nat, k ≤ l.length ∧ i = .int .i64 k ∧ s = .int .i64 (enr (l.take k)) ∧ ∃ n, wr = w.drewN n) (fun _ i _ => l.length - (intOf i).toNat)
  case atStart => exact ⟨0, Nat.zero_le _, rfl, rfl, 0, rfl⟩
  case round =>
    obtain ⟨k, hk, rfl, rfl, n, rfl⟩ := hrel
    have hb := enr_bd (l := l.take k) (B := 65536) (fun x hx => by have := allR_mem hv.out (List.mem_of_mem_take hx); omega)
    have hl : (l.take k).length ≤ 200000 := by simp; omega
    have hb2 : 65536 * 65536 * ((l.take k).length : Int) ≤ 65536 * 65536 * 200000 := by omega
    by_cases hlt : k < l.length
    · obtain ⟨bk, off, rfl, hbb, hc⟩ := h.at_ hlt
      have hx := allR_get hv.out hlt
      have hq := sq_bd (d := l[k]) (n := 65536) (by omega) (by omega)
      have HS := Lib.hid (enr_take_succ hlt)
      have e1 : l[k]?.getD 0 = l[k] := by simp [List.getElem?_eq_getElem hlt]
      rw [e1] at hc
      clear e1
      generalize hx1 : l[k] = x1 at *
      generalize hx2 : enr (l.take k) = x2 at *
      have p1 : IntKind.i64.wrap (x1 * x1) = x1 * x1 := IntWalk.i64_in _ (by omega)
      have p2 : IntKind.i64.wrap (x2 + x1 * x1) = x2 + x1 * x1 := IntWalk.i64_in _ (by omega)
      have H1 := Lib.hid hx1
      have H2 := Lib.hid hx2
      clear hx1 hx2
      go_wp2_with fail
      go_quiet (fail)
      clear p1 p2
      go_wp2_with fail
      go_roundw
      case rel => exact ⟨k + 1, by omega, by go_num, by rw [HS.out], _, rfl⟩
      case measure => simp [intOf]; omega
    · go_wp2_with fail
      go_ret
      exact ⟨ret_int (by rw [List.take_of_length_le (by omega)]), _, rfl⟩
end Go.Proofs.Ytnhkngmdjomfjaa
