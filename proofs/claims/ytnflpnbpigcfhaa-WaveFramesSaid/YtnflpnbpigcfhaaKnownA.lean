/- the chapter's examples: each call -/
import Derived.Test.YtnflpnbpigcfhaaSegs
import Derived.Test.YtnflpnbpigcfhaaResOk
namespace Go.Proofs.Ytnflpnbpigcfhaa
open Go.RowKit Ear

theorem lies_row {w : World} {g : Nat} {t : TypeId} {cs : Array Value} {xs : List Value} (h : w.heap[g]? = some (.cells cs t (0, 0))) (he : cs.toList = xs) : Lies w (some ⟨g, 0, none⟩) xs := fun _ => by
  refine ⟨g, 0, rfl, row_lt h, fun k u hu => ?_⟩
  rw [Nat.zero_add, cell_of_row w g k _ _ _ h]
  rw [← he] at hu
  simpa using hu

theorem k_res1 (g : Nat) (w : World) (h : w.heap[g]? = some (.cells #[.int .i64 0, .int .i64 4] 3 (0, 0))) :
    Calls Try.prog 13 #[.agg #[.int .i64 2, .slice (some ⟨g, 0, none⟩) 2 2], .int .i64 2, .int .i64 1] w (RecRet 4 0 [0, 2, 4, 4] w) := by
  have := Resample_ok 2 (some ⟨g, 0, none⟩) 2 [0, 4] 2 1 4 1 w (lies_row h rfl) (by decide) (show chk 2 [0, 4] = 0 by decide) (by omega) (by omega) (by omega) (by omega) (by decide) (by decide) (by decide) (by decide) (by decide) (by decide) (by decide) (by omega) (by decide) (by decide) (by omega) (by omega) (show 4 = _ by decide) (show 1 = _ by decide) (by intro _; decide)
  rw [show rsm [0, 4] 2 1 = [0, 2, 4, 4] by decide] at this
  exact this
theorem k_res2 (g : Nat) (w : World) (h : w.heap[g]? = some (.cells #[.int .i64 1, .int .i64 2, .int .i64 3, .int .i64 4] 3 (0, 0))) :
    Calls Try.prog 13 #[.agg #[.int .i64 4, .slice (some ⟨g, 0, none⟩) 4 4], .int .i64 1, .int .i64 2] w (RecRet 2 0 [2, 4] w) := by
  have := Resample_ok 4 (some ⟨g, 0, none⟩) 4 [1, 2, 3, 4] 1 2 2 2 w (lies_row h rfl) (by decide) (show chk 4 [1, 2, 3, 4] = 0 by decide) (by omega) (by omega) (by omega) (by omega) (by decide) (by decide) (by decide) (by decide) (by decide) (by decide) (by decide) (by omega) (by decide) (by decide) (by omega) (by omega) (show 2 = _ by decide) (show 2 = _ by decide) (by intro _; decide)
  rw [show rsm [1, 2, 3, 4] 1 2 = [2, 4] by decide] at this
  exact this
theorem k_emp (g : Nat) (w : World) (h : w.heap[g]? = some (.cells #[.int .i64 10, .int .i64 10, .int .i64 (-7)] 3 (0, 0))) :
    Calls Try.prog 14 #[.slice (some ⟨g, 0, none⟩) 3 3, .int .i64 1, .int .i64 2] w (IntsErr 0 [10, 5, -12] w) := by
  have := Emphasize_ok (some ⟨g, 0, none⟩) 3 [10, 10, -7] 1 2 w (lies_row h rfl) (fun e => by cases e) (show rchk [10, 10, -7] 1 2 = 0 by decide) (by decide) (show vls [10, 10, -7] = true by decide) (by omega) (by omega) (by omega) (by omega) 0 0 [10, 5, -12] (show vchk (emp [10, 10, -7] 1 2) = 0 by decide) (show (if (0 : Int) = 0 then (0 : Int) = 0 ∧ [10, 5, -12] = emp [10, 10, -7] 1 2 else _) from by decide)
  exact this
theorem k_wgh (g : Nat) (w : World) (h : w.heap[g]? = some (.cells #[.int .i64 100, .int .i64 100, .int .i64 (-3)] 3 (0, 0))) :
    Calls Try.prog 15 #[.slice (some ⟨g, 0, none⟩) 3 3, .int .i64 2] w (IntsErr 0 [50, 100, -2] w) := by
  have := Weigh_ok (some ⟨g, 0, none⟩) 3 [100, 100, -3] 2 w (lies_row h rfl) (show vchk [100, 100, -3] = 0 by decide) (by omega) (by omega) (by decide) (by decide)
  rw [show wgh [100, 100, -3] 2 = [50, 100, -2] by decide] at this
  exact this
theorem k_seg (g : Nat) (w : World) (h : w.heap[g]? = some (.cells #[.int .i64 0, .int .i64 0, .int .i64 9, .int .i64 9, .int .i64 9, .int .i64 0, .int .i64 0, .int .i64 9] 3 (0, 0))) :
    Calls Try.prog 16 #[.slice (some ⟨g, 0, none⟩) 8 8, .agg #[.int .i64 1, .int .i64 50, .int .i64 10, .int .i64 2, .int .i64 2, .int .i64 0, .int .i64 100]] w (SegRet 0 [(2, 5)] w) := by
  have := Segments_ok ⟨1, 50, 10, 2, 2, 0, 100⟩ 1 (some ⟨g, 0, none⟩) 8 [0, 0, 9, 9, 9, 0, 0, 9] w (lies_row h rfl) (fun e => by cases e) (show smp [0, 0, 9, 9, 9, 0, 0, 9] = true by decide) (by decide) (show Gt.ok ⟨1, 50, 10, 2, 2, 0, 100⟩ by simp [Gt.ok]) (show (1 : Int) = ((1 : Nat) : Int) by decide)
  rw [show segsOf ⟨1, 50, 10, 2, 2, 0, 100⟩ 1 [0, 0, 9, 9, 9, 0, 0, 9] = [(2, 5)] by decide] at this
  exact this
end Go.Proofs.Ytnflpnbpigcfhaa
