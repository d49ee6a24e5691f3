/- the closures of Pack and Unpack -/
import Derived.Test.YtnhkngmdjomfjaaPackB
namespace Go.Proofs.Ytnhkngmdjomfjaa
open Go.RowKit Ear

/-- the variable at b holds a row of bytes that the call owns -/
def VarB (w : World) (b base : Nat) (xs : List Int) : Prop :=
  ∃ A c, w.heap[b]? = some (.cells #[.slice A xs.length c] 76 (0, 0)) ∧ OwnFull w base 5 1 A xs.length c (bcs xs)
/-- the same, and the row is surely the call's own -/
def VarO (w : World) (b base : Nat) (xs : List Int) : Prop :=
  ∃ A c, w.heap[b]? = some (.cells #[.slice A xs.length c] 76 (0, 0)) ∧ w.ownsRow base 5 1 (.slice A xs.length c) xs.length (bcs xs)
theorem VarO.b {w : World} {b base : Nat} {xs : List Int} (h : VarO w b base xs) : VarB w b base xs := by
  obtain ⟨A, c, h1, h2⟩ := h; exact ⟨A, c, h1, .inl h2⟩
def Put1Rel (V : World) (b base : Nat) (xs : List Int) (n : Int) (K : Nat) (t0 t6 : Value) (wr : World) : Prop :=
  ∃ k : Nat, k ≤ K ∧ t6 = .int .i64 k ∧ t0 = .int .u32 (shB n k) ∧ VarB wr b base (xs ++ le k n) ∧ (0 < k → VarO wr b base (xs ++ le k n)) ∧ Below base V wr

set_option maxRecDepth 100000 in
set_option maxHeartbeats 1000000 in
theorem Pack1_any (n : Int) (K : Nat) (b base : Nat) (xs : List Int) (w : World) (h0 : 0 ≤ n) (hK : K ≤ 4) (hK0 : 0 < K) (hv : VarB w b base xs) (hb : base ≤ b) (hl : xs.length ≤ 1000000) :
    Calls Try.prog 82 #[.int .u32 n, .int .i64 K, .pointer (some ⟨b, 0, none⟩)] w fun e w' => e = .returned (.tuple #[]) ∧ VarO w' b base (xs ++ le K n) ∧ Below base w w' := by
  obtain ⟨i0, hi0, hz0, hz1, hz2⟩ := info_parts u8_info
  have TI := Lib.hid hi0; have TZ0 := Lib.hid hz0; have TZ1 := Lib.hid hz1; have TZ2 := Lib.hid hz2
  clear hi0 hz0 hz1 hz2
  have HV := Lib.hid hv
  clear hv
  go_enter Try.func82, Try.ntmps82
  go_wp2
  go_loopw [0, 6] (fun t0 t6 wr => Put1Rel w b base xs n K t0 t6 wr) (fun _ t6 _ => K - (intOf t6).toNat)
  case atStart => exact ⟨0, Nat.zero_le _, rfl, rfl, by simpa [le] using HV.out, fun h => absurd h (Nat.lt_irrefl _), Below.refl _ _⟩
  case round =>
    obtain ⟨k, hk, rfl, rfl, ⟨A, c, hvar, hown⟩, hvo, hbel⟩ := hrel
    have HVO := Lib.hid hvo
    clear hvo
    have hs := shB_bd h0 k
    have hbs : base ≤ wr.heap.size := by have := row_lt hvar; omega
    have hbl : b < wr.heap.size := row_lt hvar
    have OW := Lib.hid hown
    have HB := Lib.hid hbel
    have HVAR := Lib.hid hvar
    have HLE := Lib.hid (le_shB n k)
    have hlen : (xs ++ le k n).length ≤ 1000004 := by simp [le_len]; omega
    generalize hys : xs ++ le k n = ys at *
    have HYS : Hid (xs ++ le (k + 1) n = ys ++ [shB n k % 256]) := Lib.hid (by rw [HLE.out, ← hys, List.append_assoc])
    have HY := Lib.hid hys
    clear hbel hown hys
    have HSS : Hid (shB n k / 256 = shB n (k + 1)) := Lib.hid rfl
    generalize hm : shB n k = m at *
    clear hm
    by_cases hlt : k < K
    · have hc : wr.cell? ⟨b, 0, none⟩ = some (.slice A ys.length c) := cell_of_row wr b 0 _ _ _ hvar
      clear hvar
      go_wp2_with (at_builtin; refine wpList_append_full _ rfl (.tmp 8) (.tmp 11) _ rfl base 5 i0 _ 1 1 Try.underlying76 TI.out TZ0.out TZ1.out TZ2.out rfl (by omega) A ys.length c (bcs ys) rfl (OW.out.alloc _) ⟨wr.heap.size, 0, none⟩ 1 1 (bcs [m % 256]) rfl (lies_one _ _ _) (by simp) (bcs_one _) (by omega) (by unfold maxLen; omega) (by omega) (by simp; omega) (ys.length + 1) rfl ?_; intro A' c' w1 hown1 hgr1 hat1; have hv1 := (hgr1.block b (by simp; omega) (fun e => OW.out.ne e.symm HVAR.out (by decide) rfl)).trans (row_alloc HVAR.out _); have hc1 : w1.cell? ⟨b, 0, none⟩ = some (.slice A ys.length c) := cell_of_row w1 b 0 _ _ _ hv1; have hf1 := row_frozen hv1 0; have hbl1 := row_lt hv1; have HV1 := Lib.hid hv1; clear hv1)
      have hne : ∀ q, (Value.slice A' (ys.length + 1) c').ownBlock = some q → some b ≠ some q := fun q h1 h2 => by
        injection h2 with h2
        subst h2
        rcases hat1 with h3 | h3
        · rw [h3] at h1; exact OW.out.ne h1 HVAR.out (by decide) rfl
        · have := h3 _ h1; simp at this; omega
      have hb1 : Below base w w1 := (HB.out.alloc hbs _).grown hgr1 (by simp; omega) (fun k hk => (OW.out.lt k hk).1)
      go_roundw
      case rel =>
        have key : VarO (w1.setCell ⟨b, 0, none⟩ (.slice A' (ys.length + 1) c')) b base (xs ++ le (k + 1) n) := by
          refine ⟨A', c', ?_, ?_⟩
          · have := row_set HV1.out 0 (.slice A' (ys.length + 1) c')
            rw [HYS.out, List.length_append]
            exact this
          · rw [HYS.out, List.length_append, bcs_append]
            exact own_apart hown1 (only_set (World.grownBy.refl w1 (some b)) (.inl rfl) _) hne
        exact ⟨k + 1, by omega, by go_num, by rw [← HSS.out], key.b, fun _ => key, hb1.setCell hb _⟩
      case measure => simp [intOf]; omega
    · obtain rfl : k = K := by omega
      go_wp2_with fail
      go_end0
      exact ⟨rfl, by rw [HY.out]; exact HVO.out hK0, HB.out⟩
end Go.Proofs.Ytnhkngmdjomfjaa
