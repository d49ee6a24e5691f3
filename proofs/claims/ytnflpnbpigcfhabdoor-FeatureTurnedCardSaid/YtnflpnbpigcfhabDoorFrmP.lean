/- what both Frames answer -/
import Derived.Test.YtnflpnbpigcfhabDoorPFrm
import Derived.Test.YtnflpnbpigcfhabDoorMc
namespace Go.Proofs.YtnflpnbpigcfhabDoor
open Go.RowKit Ear

/-- what Frames answers -/
def frmR (x : List Int) (size step : Int) (pad : Bool) : Int × List (List Int) :=
  if vchk x = 0 then (if 1 ≤ size ∧ size ≤ 4096 ∧ 1 ≤ step ∧ step ≤ 4096 then (if 4000000 < frN x.length size.toNat step.toNat pad * size.toNat then (5, []) else (0, frs x size.toNat step.toNat pad)) else (2, [])) else (vchk x, [])
theorem frA_rng {x : List Int} (h : ∀ y ∈ x, -9223372036854775808 ≤ y ∧ y ≤ 9223372036854775807) (size t : Nat) : ∀ y ∈ frA x size t, -9223372036854775808 ≤ y ∧ y ≤ 9223372036854775807 := by
  intro y hy
  unfold frA at hy
  obtain ⟨i, _, rfl⟩ := List.mem_map.1 hy
  by_cases hi : t + i < x.length
  · rw [List.getElem?_eq_getElem hi]; exact h _ (List.getElem_mem hi)
  · rw [List.getElem?_eq_none (by omega)]; simp
theorem LLErr.nil_ {err : Int} {w w' : World} {e : Ending} (he : e = .returned (.tuple #[.slice none 0 0, .int .i64 err])) (hb : Below w.heap.size w w') : LLErr err [] w e w' := ⟨none, 0, [], he, Lib.hid rfl, LLo.nil _ _, hb⟩
theorem vchk_len {x : List Int} (h : vchk x = 0) : x.length ≤ 200000 := by
  unfold vchk at h
  split at h
  · cases h
  · omega
theorem vchk_zero {x : List Int} : vchk x = 0 ↔ x.length ≤ 200000 ∧ vls x = true := by
  unfold vchk
  by_cases h : 200000 < x.length
  · rw [if_pos h]; simp; omega
  · rw [if_neg h]
    cases vls x <;> simp; omega
end Go.Proofs.YtnflpnbpigcfhabDoor
