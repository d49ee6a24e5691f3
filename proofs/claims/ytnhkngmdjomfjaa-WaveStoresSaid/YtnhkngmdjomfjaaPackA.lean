/- the sum of bytes, and numbers as bytes -/
import Derived.Test.YtnhkngmdjomfjaaKnown
import Derived.Test.YtnhkngmdjomfjaaLed
import Derived.Test.YtnhkngmdjomfjaaPPack
namespace Go.Proofs.Ytnhkngmdjomfjaa
open Go.RowKit Ear

theorem u8_info : (Try.prog.info? 5).map (fun i => (i.zero, i.size, i.bytes)) = some (some (.int .u8 0), 1, 1) := by kernel_rfl
theorem Lies.bat {w : World} {A : Option Addr} {l : List Int} (h : Lies w A (bcs l)) {k : Nat} (hk : k < l.length) :
    ∃ b off, A = some ⟨b, off, none⟩ ∧ b < w.heap.size ∧ w.cell? ⟨b, off + k, none⟩ = some (.int .u8 l[k]) := by
  obtain ⟨b, off, e, hb, hc⟩ := h (by simp; omega)
  refine ⟨b, off, e, hb, hc k _ ?_⟩
  simp [List.getElem?_eq_getElem hk]
theorem bcs_one (l : List Int) : ∀ u ∈ bcs l, u.oneCell' = true := by
  intro u hu; simp at hu; obtain ⟨x, _, rfl⟩ := hu; rfl
/-- all numbers are bytes -/
def isB (l : List Int) : Prop := ∀ x ∈ l, 0 ≤ x ∧ x ≤ 255
theorem smB_succ {l : List Int} {k : Nat} (hk : k < l.length) : smB (l.take (k + 1)) = sst (smB (l.take k)) l[k] := by
  rw [List.take_succ_eq_append_getElem hk]
  unfold smB
  rw [smF_append]
  rfl

set_option maxHeartbeats 400000 in
theorem sum_any (A : Option Addr) (c : Nat) (l : List Int) (w : World) (h : Lies w A (bcs l)) (hb : Hid (isB l)) (hn : l.length ≤ 9223372036854775806) :
    Calls Try.prog 83 #[.slice A l.length c] w fun e w' => e = .returned (.int .u32 (smB l)) ∧ w = w' := by
  go_enter Try.func83, Try.ntmps83
  go_wp2
  go_loop [3, 8] (fun t i => ∃ k : Nat, k ≤ l.length ∧ i = .int .i64 k ∧ t = .int .u32 (smB (l.take k))) (fun _ i => l.length - (intOf i).toNat)
  case atStart => exact ⟨0, Nat.zero_le _, rfl, rfl⟩
  case round =>
    obtain ⟨k, hk, rfl, rfl⟩ := hrel
    have hs := smB_bd (l.take k)
    by_cases hlt : k < l.length
    · obtain ⟨b, off, rfl, hba, hc⟩ := h.bat hlt
      have hx := hb.out _ (List.getElem_mem hlt)
      have HS := Lib.hid (smB_succ hlt)
      go_wp2
      go_round
      case rel => exact ⟨k + 1, by omega, by go_num, by rw [HS.out]; exact congrArg _ (by unfold sst; omega)⟩
      case measure => simp [intOf]; omega
    · obtain rfl : k = l.length := by omega
      rw [List.take_length]
      go_wp2
      go_ret
      exact ⟨rfl, rfl⟩
set_option maxHeartbeats 400000 in
theorem rSum_any (A : Option Addr) (c : Nat) (l : List Int) (w : World) (h : Lies w A (bcs l)) (hb : Hid (isB l)) (hn : l.length ≤ 9223372036854775806) :
    Calls Try.prog 85 #[.slice A l.length c] w fun e w' => e = .returned (.int .i64 (smB l)) ∧ w = w' := by
  go_enter Try.func85, Try.ntmps85
  go_wp2
  go_loop [3, 4] (fun t i => ∃ k : Nat, k ≤ l.length ∧ i = .int .i64 k ∧ t = .int .i64 (smB (l.take k))) (fun _ i => l.length - (intOf i).toNat)
  case atStart => exact ⟨0, Nat.zero_le _, rfl, rfl⟩
  case round =>
    obtain ⟨k, hk, rfl, rfl⟩ := hrel
    have hs := smB_bd (l.take k)
    by_cases hlt : k < l.length
    · obtain ⟨b, off, rfl, hba, hc⟩ := h.bat hlt
      have hx := hb.out _ (List.getElem_mem hlt)
      have HS := Lib.hid (smB_succ hlt)
      go_wp2
      go_round
      case rel => exact ⟨k + 1, by omega, by go_num, by rw [HS.out]; rfl⟩
      case measure => simp [intOf]; omega
    · obtain rfl : k = l.length := by omega
      rw [List.take_length]
      go_wp2
      go_ret
      exact ⟨rfl, rfl⟩
end Go.Proofs.Ytnhkngmdjomfjaa
