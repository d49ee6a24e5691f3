/- bytes as a string -/
import Derived.Test.YtnhkngmdjomfjaaPackA
import Derived.Laws.IdiomStrings
namespace Go.Proofs.Ytnhkngmdjomfjaa
open Go.RowKit Ear

/-- bytes as a string -/
def strB (l : List Int) : ByteArray := ⟨(l.map fun n => UInt8.ofNat n.toNat).toArray⟩
theorem conv_bytes (w : World) (a : Addr) (l : List Int) (c : Nat) (h : Lies w (some a) (bcs l)) (hb : isB l) :
    (convert 76 9 (.slice (some a) l.length c)).run Try.prog w = .ok (.string (strB l)) w := by
  have := run_convert_bytes_back (P := Try.prog) w 76 9 5 a c (l.map fun n => UInt8.ofNat n.toNat) Try.underlying76 Try.underlying5 Try.underlying9 (fun j hj => by
    simp at hj
    have hx := hb _ (List.getElem_mem hj)
    rw [h.cells_add j (.int .u8 l[j]) (by simp [List.getElem?_eq_getElem hj])]
    simp
    omega)
  rw [List.length_map] at this
  exact this
theorem strB_inj {a b : List Int} (ha : isB a) (hb : isB b) (h : strB a = strB b) : a = b := by
  unfold strB at h
  injection h with h
  have h := congrArg Array.toList h
  simp only at h
  have key : ∀ (a b : List Int), isB a → isB b → (a.map fun n => UInt8.ofNat n.toNat) = (b.map fun n => UInt8.ofNat n.toNat) → a = b := by
    intro a
    induction a with
    | nil => intro b _ _ h; cases b with
      | nil => rfl
      | cons y b => simp at h
    | cons x a ih =>
      intro b ha hb h
      cases b with
      | nil => simp at h
      | cons y b =>
        simp only [List.map_cons, List.cons.injEq] at h
        have hx := ha x (List.mem_cons_self ..)
        have hy := hb y (List.mem_cons_self ..)
        have h1 := congrArg UInt8.toNat h.1
        simp at h1
        have h2 : x = y := by omega
        rw [h2, ih b (fun z hz => ha z (List.mem_cons_of_mem _ hz)) (fun z hz => hb z (List.mem_cons_of_mem _ hz)) h.2]
  exact key a b ha hb h
theorem strB_mark : strB [69, 65, 82, 49] = ⟨#[69, 65, 82, 49]⟩ := by decide
theorem mark_no {l : List Int} (hb : isB l) (h : l ≠ [69, 65, 82, 49]) : ((strB l).toList == ([69, 65, 82, 49] : List UInt8)) = false := by
  rw [beq_eq_false_iff_ne]
  intro e
  refine h (strB_inj hb (fun x hx => by simp at hx; omega) ?_)
  rw [strB_mark]
  rw [ByteArray.toList_eq] at e
  have : strB l = ⟨(strB l).data.toList.toArray⟩ := by simp
  rw [this, e]
end Go.Proofs.Ytnhkngmdjomfjaa
