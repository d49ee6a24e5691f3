/- wave.cut: what it yields, frame by frame -/
import Derived.Test.YtnflpnbpigcfhabDoorRng
import Derived.Test.YtnflpnbpigcfhabDoorPFrm
import Derived.Test.YtnflpnbpigcfhabDoorSlcI
import Derived.Test.YtnflpnbpigcfhabDoorMb
import Derived.Test.YtnflpnbpigcfhabDoorMc
import Derived.Shelf.Abstract
import Derived.Shelf.RegionOpen
import Derived.OwnWalkIn
import Derived.TacticsInMore
import Derived.LoopNIn
import Derived.LoopIn
namespace Go.Proofs.YtnflpnbpigcfhabDoor
open Go.RowKit Ear
attribute [local go_sem] Oper.semAt_some

/-- a slice from some index on -/
theorem run_cutL (A : Option Addr) (n c f : Nat) (h1 : f ≤ n) (w : World) :
    (Instr.slice 22 (.slice A n c) (some (.int .i64 f)) none none).run Tryd.prog w = .ok (.slice (cutA A f c) (n - f) (c - f)) w := by
  have e1 : (f : Int) ≤ (n : Int) := by omega
  have e0 : Tryd.prog.elem 22 = 3 := by kernel_rfl
  rw [run_slice_l (t := 22) (a := A) (len := n) (cap := c) (ht := by rw [e0]; exact Tryd.underlying22) (kl := .i64) (l := f) (h0 := by omega) (h1 := e1), e0]
  have hs : (sizeOf 3).run Tryd.prog w = .ok 1 w := by kernel_rfl
  rw [hs]
  simp [Result.andThen, sliced, cutA]
theorem Lies.cutL {w : World} {A : Option Addr} {l : List Int} {f c : Nat} (h : Lies w A (ics l)) (h1 : f ≤ l.length) (hlc : l.length ≤ c) : Lies w (cutA A f c) (ics (l.drop f)) := by
  have := h.cut (f := f) (t := l.length) (c := c) h1 (Nat.le_refl _) hlc
  rwa [List.take_of_length_le (by simp)] at this
/-- copy of integers into a row that is owned whole: the run -/
theorem run_copy_ints {w : World} (ty : TypeId) (g n c : Nat) (A : Option Addr) (l ys : List Int) (k : Nat) (hk : l.length = k) (base : Nat)
    (hown : w.ownsRow base 3 1 (.slice (some ⟨g, 0, none⟩) n n) n (ics ys)) (hm : n ≤ maxLen) (hlie : Lies w A (ics l)) (B : Nat) (w0 : World) (hb : Below B w0 w) (hBg : B ≤ g) :
    ∃ w', (Builtin.copy_ #[22, 22] ty #[.slice (some ⟨g, 0, none⟩) n n, .slice A k c]).run Tryd.prog w = .ok (goInt ((min n k : Nat) : Int)) w' ∧
      w'.ownsRow base 3 1 (.slice (some ⟨g, 0, none⟩) n n) n (ics (l.take n ++ ys.drop (min n k))) ∧ Below B w0 w' := by
  subst hk
  obtain ⟨hbg, hyl, hrow⟩ := own_whole hown
  have hyl' : ys.length = n := by simpa using hyl
  have hcl : (ics (l.take n)).length = min n l.length := by simp
  have hsz : (Tryd.prog.info? 3).map (·.size) = some 1 := by kernel_rfl
  by_cases h0 : min n l.length = 0
  · have hrun := run_copy_none (P := Tryd.prog) w 22 22 ty 3 (some ⟨g, 0, none⟩) A n n l.length c Tryd.underlying22 hsz (by show min l.length n = 0; omega)
    have e : l.take n ++ ys.drop (min n l.length) = ys := by
      rw [h0]
      have : l.take n = [] := by rw [List.take_eq_nil_iff]; rcases Nat.min_eq_zero_iff.1 h0 with h | h
                                 · exact .inl h
                                 · exact .inr (List.eq_nil_of_length_eq_zero h)
      rw [this]; simp
    refine ⟨w, ?_, by rw [e]; exact hown, hb⟩
    rw [h0]; exact hrun
  · obtain ⟨b, off, rfl, _, hc⟩ := hlie (by simp; omega)
    have hrun := run_copy_row (P := Tryd.prog) w 22 22 ty 3 g 0 n n ⟨b, off, none⟩ l.length c (ics ys).toArray 3 (ics (l.take n)) Tryd.underlying22 hsz hrow (by rw [hcl]; show _ = min l.length n; omega) (fun j v hv => by
      rw [Addr.add_lit]
      refine hc j v ?_
      simp only [ics, List.getElem?_map, List.getElem?_take] at hv ⊢
      split at hv
      · exact hv
      · simp at hv) (by simp; omega) (ics_one _)
    have hrow' := setRow_heap w g _ ((((ics ys).toArray.toList.take 0 ++ ics (l.take n)) ++ (ics ys).toArray.toList.drop (0 + (ics (l.take n)).length)).toArray) 3 _ hrow
    have hbel := below_setRow hb hBg (((((ics ys).toArray.toList.take 0 ++ ics (l.take n)) ++ (ics ys).toArray.toList.drop (0 + (ics (l.take n)).length)).toArray))
    rw [hcl] at hrun hrow' hbel
    have e : (((ics ys).toArray.toList.take 0 ++ ics (l.take n)) ++ (ics ys).toArray.toList.drop (0 + min n l.length)) = ics (l.take n ++ ys.drop (min n l.length)) := by simp
    rw [e] at hrun hrow' hbel
    exact ⟨_, hrun, own_of_row hbg hrow' (by simp; omega) hm, hbel⟩
end Go.Proofs.YtnflpnbpigcfhabDoor
