/- the first part of a slice -/
import Derived.Test.YtnflpnbpigcfhabDoorSlcI
import Derived.Test.YtnflpnbpigcfhabDoorMc
namespace Go.Proofs.YtnflpnbpigcfhabDoor
open Go.RowKit Ear

theorem cutA_zero (A : Option Addr) (c : Nat) : cutA A 0 c = A := by
  unfold cutA
  split
  · rfl
  · cases A with
    | none => rfl
    | some a => obtain ⟨b, o, p⟩ := a; simp [Addr.add]
theorem run_cutH (A : Option Addr) (n c t : Nat) (h2 : t ≤ c) (w : World) :
    (Instr.slice 22 (.slice A n c) none (some (.int .i64 t)) none).run Tryd.prog w = .ok (.slice A t c) w := by
  have e2 : (t : Int) ≤ (c : Int) := by omega
  have e0 : Tryd.prog.elem 22 = 3 := by kernel_rfl
  rw [run_slice_h (t := 22) (a := A) (len := n) (cap := c) (ht := by rw [e0]; exact Tryd.underlying22) (kh := .i64) (h := t) (h0 := by omega) (h2 := e2), e0]
  have hs : (sizeOf 3).run Tryd.prog w = .ok 1 w := by kernel_rfl
  rw [hs]
  have := cutA_zero A c
  simp only [cutA] at this
  simp [Result.andThen, sliced, this]
theorem run_cutHs (A : Option Addr) (n c t : Nat) (h2 : t ≤ c) (w : World) :
    (Instr.slice 32 (.slice A n c) none (some (.int .i64 t)) none).run Tryd.prog w = .ok (.slice A t c) w := by
  have e2 : (t : Int) ≤ (c : Int) := by omega
  have e0 : Tryd.prog.elem 32 = 22 := by kernel_rfl
  rw [run_slice_h (t := 32) (a := A) (len := n) (cap := c) (ht := by rw [e0]; exact Tryd.underlying32) (kh := .i64) (h := t) (h0 := by omega) (h2 := e2), e0]
  have hs : (sizeOf 22).run Tryd.prog w = .ok 1 w := by kernel_rfl
  rw [hs]
  have := cutA_zero A c
  simp only [cutA] at this
  simp [Result.andThen, sliced, this]
theorem LL.take {w : World} {A : Option Addr} {L : List Inn} (h : LL w A L) (k : Nat) : LL w A (L.take k) := ⟨by have := h.lies.take k; simpa [lcs, List.map_take] using this, fun x hx => h.inn x (List.mem_of_mem_take hx)⟩
end Go.Proofs.YtnflpnbpigcfhabDoor
