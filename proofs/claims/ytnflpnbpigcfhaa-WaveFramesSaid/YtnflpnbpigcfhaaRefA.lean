/- a first walk -/
import Derived.Test.YtnflpnbpigcfhaaRnd
import Derived.Test.YtnflpnbpigcfhaaPWave
namespace Go.Proofs.Ytnflpnbpigcfhaa
open Go.RowKit Ear

theorem all_take_succ {p : Int → Bool} {l : List Int} {k : Nat} (hk : k < l.length) (h : (l.take k).all p = true) (hx : p l[k] = true) : (l.take (k + 1)).all p = true := by
  rw [List.take_succ_eq_append_getElem hk, List.all_append, h]
  simp [hx]
theorem all_false_at {p : Int → Bool} {l : List Int} {k : Nat} (hk : k < l.length) (hx : p l[k] = false) : l.all p = false := by
  rw [List.all_eq_false]
  exact ⟨l[k], List.getElem_mem hk, by simp [hx]⟩
theorem ret_bool {a b : Bool} (h : a = b) : Ending.returned (.bool a) = .returned (.bool b) := by rw [h]

set_option maxHeartbeats 400000 in
theorem All_any (A : Option Addr) (c : Nat) (l : List Int) (lo hi : Int) (w : World) (h : Lies w A (ics l)) (hn : l.length ≤ 9223372036854775807) (b : Bool) (hb' : Hid (allR lo hi l = b)) :
    Calls Try.prog 12 #[.slice A l.length c, .int .i64 lo, .int .i64 hi] w fun e w' => e = .returned (.bool b) ∧ w = w' := by
  go_enter Try.func12, Try.ntmps12
  go_wp2
  go_loop [7] (fun i => ∃ k : Nat, k ≤ l.length ∧ i = .int .i64 k ∧ (l.take k).all (inR lo hi) = true) (fun i => l.length - (intOf i).toNat)
  case atStart => exact ⟨0, Nat.zero_le _, rfl, rfl⟩
  case round =>
    obtain ⟨k, hk, rfl, hp⟩ := hrel
    by_cases hlt : k < l.length
    · obtain ⟨bk, off, rfl, hb, hc⟩ := h.at_ hlt
      have HP := Lib.hid hp
      clear hp
      go_wp2
      · go_ret
        exact ⟨ret_bool (by rw [← hb'.out]; exact (all_false_at hlt (by simp [inR]; omega)).symm), rfl⟩
      · exact ⟨⟨k + 1, by omega, by go_num, all_take_succ hlt HP.out (by simp [inR]; omega)⟩, by simp [intOf]; omega⟩
      · go_ret
        exact ⟨ret_bool (by rw [← hb'.out]; exact (all_false_at hlt (by simp [inR]; omega)).symm), rfl⟩
    · have HP := Lib.hid hp
      clear hp
      go_wp2
      go_ret
      exact ⟨ret_bool (by rw [← hb'.out]; have hh := HP.out; rw [List.take_of_length_le (by omega)] at hh; exact hh.symm), rfl⟩
end Go.Proofs.Ytnflpnbpigcfhaa
