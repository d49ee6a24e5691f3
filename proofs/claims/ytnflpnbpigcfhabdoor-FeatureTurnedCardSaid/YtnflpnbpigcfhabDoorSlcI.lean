/- a part of a slice of numbers -/
import Derived.Test.YtnflpnbpigcfhabDoorMa
namespace Go.Proofs.YtnflpnbpigcfhabDoor
open Go.RowKit Ear

/-- the address of a part -/
def cutA (A : Option Addr) (f c : Nat) : Option Addr := if c = f then A else A.map (·.add f)

theorem run_cut (A : Option Addr) (n c f t : Nat) (h1 : f ≤ t) (h2 : t ≤ c) (w : World) :
    (Instr.slice 22 (.slice A n c) (some (.int .i64 f)) (some (.int .i64 t)) none).run Tryd.prog w = .ok (.slice (cutA A f c) (t - f) (c - f)) w := by
  have e1 : (f : Int) ≤ (t : Int) := by omega
  have e2 : (t : Int) ≤ (c : Int) := by omega
  have e0 : Tryd.prog.elem 22 = 3 := by kernel_rfl
  rw [run_slice_lh (t := 22) (a := A) (len := n) (cap := c) (ht := by rw [e0]; exact Tryd.underlying22) (kl := .i64) (kh := .i64) (l := f) (h := t) (h0 := by omega) (h1 := e1) (h2 := e2), e0]
  have hs : (sizeOf 3).run Tryd.prog w = .ok 1 w := by kernel_rfl
  rw [hs]
  simp [Result.andThen, sliced, cutA]
theorem Lies.cut {w : World} {A : Option Addr} {l : List Int} {f t c : Nat} (h : Lies w A (ics l)) (h1 : f ≤ t) (h2 : t ≤ l.length) (hlc : l.length ≤ c) : Lies w (cutA A f c) (ics ((l.drop f).take (t - f))) := by
  intro h0
  simp only [List.length_map, List.length_take, List.length_drop] at h0
  obtain ⟨b, off, rfl, hb, hc⟩ := h (by simp; omega)
  refine ⟨b, off + f, ?_, hb, fun k u hu => ?_⟩
  · unfold cutA
    rw [if_neg (by omega)]
    simp [Addr.add_lit]
  · rw [Nat.add_assoc]
    apply hc
    simp only [ics, List.getElem?_map, List.getElem?_take, List.getElem?_drop] at hu ⊢
    split at hu
    · exact hu
    · simp at hu
theorem cutA_none {A : Option Addr} {l : List Int} {f t c : Nat} (hA : A = none → c = 0 ∧ l = []) (h : cutA A f c = none) : c - f = 0 ∧ (l.drop f).take (t - f) = [] := by
  have : A = none := by
    unfold cutA at h
    split at h
    · exact h
    · simpa using h
  obtain ⟨h1, h2⟩ := hA this
  subst h1 h2
  simp
theorem cut_length {l : List Int} {f t : Nat} (h1 : f ≤ t) (h2 : t ≤ l.length) : ((l.drop f).take (t - f)).length = t - f := by
  rw [List.length_take, List.length_drop]; omega
end Go.Proofs.YtnflpnbpigcfhabDoor
