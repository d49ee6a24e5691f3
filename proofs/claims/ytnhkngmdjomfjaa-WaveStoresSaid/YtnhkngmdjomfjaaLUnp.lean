/- WaveUnpacks: the walk -/
import Derived.Test.YtnhkngmdjomfjaaRUnp
namespace Go.Proofs.Ytnhkngmdjomfjaa
open Go.RowKit Ear

theorem rUnpack_yes (A : Option Addr) (c : Nat) (l : List Int) (w : World) (h : Lies w A (bcs l)) (hb : Hid (isB l)) (hlc : l.length ≤ c) (hl : l.length ≤ 500000) (hok : okB l = true) :
    Calls Try.prog 60 #[.slice A l.length c] w (RecBool (rateB l) true (unB (l.length / 2 - 8) (l.drop 12)) w) := by
  obtain ⟨h16, _⟩ := okB_mark hok
  obtain ⟨_, _, _, h4⟩ := okB_head hok
  have := rUnpack_long A c l w h hb hlc hl h16 (by simp; omega) _ (Lib.hid rfl) true (Lib.hid hok)
  rw [if_pos rfl] at this
  exact this
theorem rUnpack_no (A : Option Addr) (c : Nat) (l : List Int) (w : World) (h : Lies w A (bcs l)) (hb : Hid (isB l)) (hlc : l.length ≤ c) (hl : l.length ≤ 500000) (hok : okB l = false) :
    Calls Try.prog 60 #[.slice A l.length c] w (RecBool 0 false [] w) := by
  by_cases h16 : 16 ≤ l.length
  · by_cases hev : l.length % 2 = 0
    · have := rUnpack_long A c l w h hb hlc hl h16 (by simp; omega) _ (Lib.hid rfl) false (Lib.hid hok)
      rw [if_neg (by simp)] at this
      exact this
    · exact rUnpack_short A c l w hl (.inr ⟨h16, by rw [Int.tmod_eq_emod_of_nonneg (by omega)]; simp; omega, by simp; omega⟩)
  · exact rUnpack_short A c l w hl (.inl (by omega))

set_option maxRecDepth 100000 in
set_option maxHeartbeats 2000000 in
theorem WaveUnpacks_far (A : Option Addr) (c : Nat) (l : List Int) (w : World) (hn : l.length ≤ 9223372036854775807) (hh : (8000 < l.length ∧ l.length ≤ 500000) ∨ 600000 < l.length) :
    Calls Try.prog 19 #[.slice A l.length c] w fun e w' => e = .returned (.bool true) ∧ Below w.heap.size w w' := by
  rcases hh with ⟨h1, h2⟩ | h1
  all_goals
    go_enter Try.func19, Try.ntmps19
    go_wp2_with fail
    refine (known2_any _).mono ?_
    rintro e w7 ⟨rfl, hb7⟩
    go_wp2_with fail
    go_ret
    exact ⟨rfl, hb7⟩

set_option maxRecDepth 100000 in
set_option maxHeartbeats 2000000 in
theorem WaveUnpacks_long (A : Option Addr) (c : Nat) (l : List Int) (w : World) (h1 : 500000 < l.length) (h2 : l.length ≤ 600000) :
    Calls Try.prog 19 #[.slice A l.length c] w fun e w' => e = .returned (.bool true) ∧ Below w.heap.size w w' := by
  go_enter Try.func19, Try.ntmps19
  go_wp2_with fail
  refine (Unpack_long A c l _ h1).mono ?_
  rintro e w1 ⟨A1, c1, rfl, hown1, hb1⟩
  have D1 := Lib.hid (((Led.nil w).below hb1).add (Lies.of_own hown1))
  simp only [List.length_nil]
  clear hb1 hown1
  go_wp2_with fail
  refine (same_bel A1 none c1 0 [] [] _ (((D1.out.alloc _).alloc _).lies 0 _ _ rfl) (Lies.nil _ _) (by simp) (by simp) true (Lib.hid (by simp))).mono ?_
  rintro e w2 ⟨rfl, hb2⟩
  have D2 := Lib.hid (((D1.out.alloc _).alloc _).below hb2)
  clear hb2
  go_wp2_with fail
  refine (known2_any _).mono ?_
  rintro e w7 ⟨rfl, hb7⟩
  go_wp2_with fail
  go_ret
  exact ⟨rfl, bel_trans D2.out.bel hb7⟩

set_option maxRecDepth 100000 in
set_option maxHeartbeats 4000000 in
theorem WaveUnpacks_short (A : Option Addr) (c : Nat) (l : List Int) (w : World) (h : Lies w A (bcs l)) (hl : l.length ≤ 8000) (rate err : Int) (isb : Bool) (out : List Int) (hol : out.length ≤ 8000)
    (hU : Hid (∀ W, Lies W A (bcs l) → Calls Try.prog 59 #[.slice A l.length c] W (RecRet rate err out W))) (hR : Hid (∀ W, Lies W A (bcs l) → Calls Try.prog 60 #[.slice A l.length c] W (RecBool rate isb out W)))
    (he : (isb = true ∧ err = 0) ∨ (isb = false ∧ err = 4)) :
    Calls Try.prog 19 #[.slice A l.length c] w fun e w' => e = .returned (.bool true) ∧ Below w.heap.size w w' := by
  have D0 := Lib.hid ((Led.nil w).add h)
  clear h
  rcases he with ⟨rfl, rfl⟩ | ⟨rfl, rfl⟩
  all_goals
    go_enter Try.func19, Try.ntmps19
    go_wp2_with fail
    refine (hU.out _ (D0.out.lies 0 _ _ rfl)).mono ?_
    rintro e w1 ⟨A1, c1, rfl, hown1, hb1⟩
    have DA := Lib.hid ((D0.out.below hb1).add (Lies.of_own hown1))
    have D1 := Lib.hid (DA.out.alloc (.cells #[.int .i64 rate, .slice A1 out.length c1] 24) |>.row (heap_alloc_new w1 _))
    clear hb1 hown1
    go_wp2_with fail
    refine (hR.out _ ((D1.out.alloc _).lies 0 _ _ rfl)).mono ?_
    rintro e w2 ⟨A2, c2, rfl, hown2, hb2⟩
    have HR2 := Lib.hid ((hb2.block (w1.heap.size + 1) (by simp)).trans (heap_two w1 _ _))
    have D2 := Lib.hid ((D1.out.alloc (.cells #[.int .i64 0, .slice none 0 0] 24)).below hb2)
    have DB := Lib.hid ((DA.out.alloc (.cells #[.int .i64 rate, .slice A1 out.length c1] 24)).alloc (.cells #[.int .i64 0, .slice none 0 0] 24) |>.below hb2)
    have OW2 := Lib.hid hown2
    have hs2 := hb2.size
    simp only [World.size_alloc] at hs2
    clear hb2 hown2 D1
    have q30 := D2.out.cell 2 rfl 0 rfl
    have q31 := D2.out.cell 2 rfl 1 rfl
    have q60 := cell_of_row w2 _ 0 _ _ _ HR2.out
    have q61 := cell_of_row w2 _ 1 _ _ _ HR2.out
    have f60 := row_frozen HR2.out 0
    have f61 := row_frozen HR2.out 1
    simp only [Nat.zero_add, Nat.add_zero] at q30 q31
    simp at q60 q61
    go_wp2_with fail
    have hgs := only_set (only_set (World.grownBy.refl w2 (some (w1.heap.size + 1))) (p := ⟨w1.heap.size + 1, 0, none⟩) (.inl rfl) (Value.int .i64 rate)) (p := ⟨w1.heap.size + 1, 1, none⟩) (.inl rfl) (Value.slice A2 out.length c2)
    have D3 := Lib.hid (DA.out.past DB.out hgs (by omega))
    have L2 := Lib.hid (Lies.of_own (ownsRow_far (ownsRow_far OW2.out (p := ⟨w1.heap.size + 1, 0, none⟩) (by simp) (Value.int .i64 rate)) (p := ⟨w1.heap.size + 1, 1, none⟩) (by simp) (Value.slice A2 out.length c2)))
    refine (same_bel A1 A2 c1 c2 out out _ (D3.out.lies 1 _ _ rfl) L2.out (by omega) (by omega) true (Lib.hid (by simp))).mono ?_
    rintro e w3 ⟨rfl, hb3⟩
    have B3 := Lib.hid (bel_trans D3.out.bel hb3)
    clear hb3 hgs D3 L2 OW2 DB D2 HR2 q30 q31 q60 q61 f60 f61
    go_wp2_with fail
    refine (known2_any _).mono ?_
    rintro e w7 ⟨rfl, hb7⟩
    go_wp2_with fail
    go_ret
    exact ⟨rfl, bel_trans B3.out hb7⟩

theorem WaveUnpacks_any (A : Option Addr) (c : Nat) (l : List Int) (w : World) (h : Lies w A (bcs l)) (hn : l.length ≤ 9223372036854775807) (hlc : l.length ≤ c) (hb : isB l) :
    Calls Try.prog 19 #[.slice A l.length c] w fun e w' => e = .returned (.bool true) ∧ Below w.heap.size w w' := by
  by_cases h1 : (8000 < l.length ∧ l.length ≤ 500000) ∨ 600000 < l.length
  · exact WaveUnpacks_far A c l w hn h1
  by_cases h2 : 500000 < l.length
  · exact WaveUnpacks_long A c l w h2 (by omega)
  cases hok : okB l with
  | true => exact WaveUnpacks_short A c l w h (by omega) (rateB l) 0 true _ (by rw [unB_len]; omega) (Lib.hid fun W hW => Unpack_yes A c l W hW (Lib.hid hb) hlc (by omega) hok) (Lib.hid fun W hW => rUnpack_yes A c l W hW (Lib.hid hb) hlc (by omega) hok) (.inl ⟨rfl, rfl⟩)
  | false => exact WaveUnpacks_short A c l w h (by omega) 0 4 false [] (by simp) (Lib.hid fun W hW => Unpack_no A c l W hW (Lib.hid hb) hlc (by omega) hok) (Lib.hid fun W hW => rUnpack_no A c l W hW (Lib.hid hb) hlc (by omega) hok) (.inr ⟨rfl, rfl⟩)
end Go.Proofs.Ytnhkngmdjomfjaa
