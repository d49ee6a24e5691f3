/- recordings: what is right and what is wrong -/
import Derived.Test.YtnflpnbpigcfhaaLst
namespace Go.Proofs.Ytnflpnbpigcfhaa
open Go.RowKit Ear

/-- a recording as a value -/
abbrev recV (rate : Int) (A : Option Addr) (n c : Nat) : Value := .agg #[.int .i64 rate, .slice A n c]

set_option maxHeartbeats 400000 in
theorem check_any (rate : Int) (A : Option Addr) (c : Nat) (l : List Int) (w : World) (h : Lies w A (ics l)) (hn : l.length ≤ 9223372036854775807) (r : Int) (hr : Hid (chk rate l = r)) :
    Calls Try.prog 21 #[recV rate A l.length c] w fun e w' => e = .returned (.int .i64 r) ∧ Below w.heap.size w w' := by
  have hl := fun o => h.alloc (w := w) o
  have HL := Lib.hid hl
  clear hl
  by_cases h1 : 200000 < l.length
  · go_enter Try.func21, Try.ntmps21
    go_wp2_with fail
    go_ret
    exact ⟨ret_int (by rw [← hr.out, chk, if_pos h1]), (Below.refl _ _).alloc (Nat.le_refl _) _⟩
  · by_cases h2 : rate < 1
    · go_enter Try.func21, Try.ntmps21
      go_wp2_with fail
      go_ret
      exact ⟨ret_int (by rw [← hr.out, chk, if_neg h1, if_neg (by omega)]), (Below.refl _ _).alloc (Nat.le_refl _) _⟩
    · by_cases h3 : 192000 < rate
      · go_enter Try.func21, Try.ntmps21
        go_wp2_with fail
        go_ret
        exact ⟨ret_int (by rw [← hr.out, chk, if_neg h1, if_neg (by omega)]), (Below.refl _ _).alloc (Nat.le_refl _) _⟩
      · cases hx : smp l
        all_goals
          have HX := Lib.hid hx
          clear hx
          go_enter Try.func21, Try.ntmps21
          go_wp2_with fail
          refine (samples_any A c l _ (HL.out _) hn _ HX).mono ?_
          rintro e w' ⟨rfl, rfl⟩
          go_wp2_with fail
          go_ret
          refine ⟨ret_int ?_, (Below.refl _ _).alloc (Nat.le_refl _) _⟩
          rw [← hr.out, chk, if_neg h1, HX.out]
          first | rw [if_pos ⟨by omega, by omega, rfl⟩] | rw [if_neg (by simp)]

theorem not_iff_decide {p : Prop} [Decidable p] {b : Bool} (h : decide p = b) (hp : ¬ p) : b = false := by rw [← h]; simp [hp]

set_option maxHeartbeats 400000 in
theorem rValues_any (A : Option Addr) (c : Nat) (l : List Int) (w : World) (h : Lies w A (ics l)) (hn : l.length ≤ 9223372036854775807) (b : Bool) (hb : Hid (vls l = b)) :
    Calls Try.prog 10 #[.slice A l.length c] w fun e w' => e = .returned (.bool b) ∧ w = w' := by
  go_enter Try.func10, Try.ntmps10
  go_wp2_with fail
  refine (All_any A c l _ _ _ h hn _ hb).mono ?_
  rintro e w' ⟨rfl, rfl⟩
  go_wp2_with fail
  go_ret
  exact ⟨rfl, rfl⟩

end Go.Proofs.Ytnflpnbpigcfhaa
