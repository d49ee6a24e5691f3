/- Emphasize and the reference's, whatever comes in -/
import Derived.Test.YtnflpnbpigcfhabDoorMa
import Derived.Test.YtnflpnbpigcfhabDoorREmp
namespace Go.Proofs.YtnflpnbpigcfhabDoor
open Go.RowKit Ear

theorem Emphasize_any (A : Option Addr) (c : Nat) (l : List Int) (num den : Int) (w : World) (h : Lies w A (ics l)) (hA : A = none → c = 0 ∧ l = []) (hn : l.length ≤ 9223372036854775807) (err : Int) (out : List Int) (ho : Hid (empR l num den = (err, out))) :
    Calls Tryd.prog 24 #[.slice A l.length c, .int .i64 num, .int .i64 den] w (IntsErr err out w) := by
  have ho' := ho.out
  unfold empR at ho'
  by_cases h1 : rchk l num den = 0
  · have h3 := rchk_ok.1 h1
    rw [if_pos h1] at ho'
    refine Emphasize_ok A c l num den w h hA (Lib.hid h1) h3.1.1 (Lib.hid h3.1.2) h3.2.1 h3.2.2.1 h3.2.2.2.1 h3.2.2.2.2 (vchk (emp l num den)) err out (Lib.hid rfl) (Lib.hid ?_)
    split at ho' <;> rename_i h2
    · rw [if_pos h2]; injection ho' with e1 e2; exact ⟨e1.symm, e2.symm⟩
    · rw [if_neg h2]; injection ho' with e1 e2; exact ⟨e1.symm, e2.symm⟩
  · rw [if_neg h1] at ho'
    injection ho' with e1 e2
    subst e1 e2
    exact Emphasize_chk A c l num den w h hn _ (Lib.hid rfl) (by simp [h1])

theorem emp_vls {l : List Int} {num den : Int} : vls (emp l num den) = true ↔ ∀ k, k < l.length → inR (-2147483647) 2147483647 (empAt l num den k) = true := by
  unfold vls allR emp
  rw [List.all_eq_true]
  constructor
  · intro h k hk
    exact h _ (List.mem_map.2 ⟨k, List.mem_range.2 hk, rfl⟩)
  · intro h x hx
    obtain ⟨k, hk, rfl⟩ := List.mem_map.1 hx
    exact h k (List.mem_range.1 hk)

end Go.Proofs.YtnflpnbpigcfhabDoor
