/- wave.Unpack: of any bytes -/
import Derived.Test.YtnhkngmdjomfjaaUnpT
namespace Go.Proofs.Ytnhkngmdjomfjaa
open Go.RowKit Ear

theorem okB_mark {l : List Int} (h : okB l = true) : 16 ≤ l.length ∧ l.take 4 = [69, 65, 82, 49] := by
  unfold okB at h
  obtain ⟨h1, h2, _⟩ := of_decide_eq_true h
  exact ⟨h1, h2⟩
theorem rateB_bd {l : List Int} (hb : isB l) : 0 ≤ rateB l ∧ rateB l ≤ 4294967295 := ge_bd4 (fun x hx => hb x (List.mem_of_mem_drop (List.mem_of_mem_take hx))) (by simp; omega)
theorem cntB_bd {l : List Int} (hb : isB l) : 0 ≤ cntB l ∧ cntB l ≤ 4294967295 := ge_bd4 (fun x hx => hb x (List.mem_of_mem_drop (List.mem_of_mem_take hx))) (by simp; omega)

theorem Unpack_yes (A : Option Addr) (c : Nat) (l : List Int) (w : World) (h : Lies w A (bcs l)) (hb : Hid (isB l)) (hlc : l.length ≤ c) (hl : l.length ≤ 500000) (hok : okB l = true) :
    Calls Try.prog 59 #[.slice A l.length c] w (RecRet (rateB l) 0 (unB (l.length / 2 - 8) (l.drop 12)) w) := by
  obtain ⟨h16, hm⟩ := okB_mark hok
  obtain ⟨h1, h2, h3, h4⟩ := okB_head hok
  have hc := cntB_bd hb.out
  obtain ⟨N, hN⟩ := Int.eq_ofNat_of_zero_le hc.1
  have hs := okB_sum h16 hm ⟨h1, h2, h3, h4⟩
  rw [hok] at hs
  have hs2 := of_decide_eq_true hs.symm
  have := Unpack_tail A c l w h hb hlc hl h16 (Lib.hid hm) (rateB l) N (Lib.hid rfl) (Lib.hid hN) h1 h2 (by omega) (Lib.hid (by omega)) _ (Lib.hid rfl) _ (Lib.hid rfl) false (Lib.hid (by rw [hs2]; simp))
  rw [if_neg (by simp)] at this
  rw [show l.length / 2 - 8 = N by omega]
  exact this
theorem Unpack_no (A : Option Addr) (c : Nat) (l : List Int) (w : World) (h : Lies w A (bcs l)) (hb : Hid (isB l)) (hlc : l.length ≤ c) (hl : l.length ≤ 500000) (hok : okB l = false) :
    Calls Try.prog 59 #[.slice A l.length c] w (RecRet 0 4 [] w) := by
  by_cases h16 : 16 ≤ l.length
  · by_cases hm : l.take 4 = [69, 65, 82, 49]
    · have hc := cntB_bd hb.out
      by_cases h1 : rateB l < 1
      · exact Unpack_head A c l w h hb hlc hl h16 (Lib.hid hm) _ _ (Lib.hid rfl) (Lib.hid rfl) hc (.inl h1)
      by_cases h2 : 192000 < rateB l
      · exact Unpack_head A c l w h hb hlc hl h16 (Lib.hid hm) _ _ (Lib.hid rfl) (Lib.hid rfl) hc (.inr (.inl ⟨by omega, h2⟩))
      by_cases h3 : 200000 < cntB l
      · exact Unpack_head A c l w h hb hlc hl h16 (Lib.hid hm) _ _ (Lib.hid rfl) (Lib.hid rfl) hc (.inr (.inr (.inl ⟨by omega, by omega, h3⟩)))
      by_cases h4 : (l.length : Int) = 16 + 2 * cntB l
      · obtain ⟨N, hN⟩ := Int.eq_ofNat_of_zero_le hc.1
        have hs := okB_sum h16 hm ⟨by omega, by omega, by omega, h4⟩
        rw [hok] at hs
        have hs2 := of_decide_eq_false hs.symm
        have := Unpack_tail A c l w h hb hlc hl h16 (Lib.hid hm) (rateB l) N (Lib.hid rfl) (Lib.hid hN) (by omega) (by omega) (by omega) (Lib.hid (by omega)) _ (Lib.hid rfl) _ (Lib.hid rfl) true (Lib.hid (by simpa using hs2))
        rw [if_pos rfl] at this
        exact this
      · exact Unpack_head A c l w h hb hlc hl h16 (Lib.hid hm) _ _ (Lib.hid rfl) (Lib.hid rfl) hc (.inr (.inr (.inr ⟨by omega, by omega, by omega, by simpa using h4⟩)))
    · exact Unpack_mark A c l w h hb hlc hl (.inr ⟨h16, hm⟩)
  · exact Unpack_mark A c l w h hb hlc hl (.inl (by omega))
end Go.Proofs.Ytnhkngmdjomfjaa
